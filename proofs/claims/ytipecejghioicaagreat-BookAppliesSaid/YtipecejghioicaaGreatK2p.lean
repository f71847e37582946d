/- Siloref16: Spread, Stripes. -/
import Derived.Test.YtipecejghioicaaGreatE2p
import Derived.Test.YtipecejghioicaaGreatR4p
import Derived.Deep.Cut
import Derived.Test.YtipecejghioicaaGreatB6p
import Derived.Test.YtipecejghioicaaGreatE8p
set_option maxHeartbeats 8000000
set_option maxRecDepth 100000
namespace Go.Proofs.YtipecejghioicaaGreat
open Go.RowKit Go.Silo
end Go.Proofs.YtipecejghioicaaGreat
namespace Go.Proofs.YtipecejghioicaaGreat
open Go.RowKit Go.Silo
def zL (s:Shape) (l:List Bc) (k:Nat):Bool:=ze s (l.getD k default)&&!(decide (0<k)&&decide ((l.getD k default).id≤(l.getD (k - 1) default).id))
def qW (s:Shape) (l:List Bc):Bool:=(List.range l.length).all (zL s l)
theorem jH {s:Shape}{l:List Bc}(h:∀j,j<l.length→zL s l j=true):qW s l=true:=List.all_eq_true.2 fun i hi=>h i (List.mem_range.1 hi)
theorem Qg {s:Shape}{l:List Bc}{k:Nat}(hk:k<l.length) (h:zL s l k=false):qW s l=false:=by
 cases hh:qW s l with
 |false=>rfl
 |true=>have:=List.all_eq_true.1 hh k (List.mem_range.2 hk);rw[h] at this;cases this
theorem QZ {tg tg1:Bool}{S:Nat→Prop}{w:World}{A:Option Addr}{n c:Nat}{s:Shape}{l:List Bc}(h:Sl tg 86 (qc tg1) w S A n c l):
  Calls Tryz.prog 49 #[.agg #[.int .i64 s.K,.int .i64 s.M,.int .i64 s.size],.slice A n c] w (Bf (.bool (qW s l&&qt s)) w):=by
 have HL:=zh h.len;have hcap:n≤9223372036854775807:=Nat.le_trans h.le h.cap;have hal:Below w.heap.size w (w.alloc (.cells #[.int .i64 s.K,.int .i64 s.M,.int .i64 s.size] 23)):=bz;have H:=zh (h.all hal);have hrow:=heap_alloc_new w (.cells #[.int .i64 s.K,.int .i64 s.M,.int .i64 s.size] 23);have hz:w.heap.size<(w.alloc (.cells #[.int .i64 s.K,.int .i64 s.M,.int .i64 s.size] 23)).heap.size:=by simp
 clear h
 go_enter Tryz.func49,Tryz.ntmps49
 go_upto_region 1 with (fail)
 generalize w.alloc (.cells #[.int .i64 s.K,.int .i64 s.M,.int .i64 s.size] 23)=W0 at *
 have ROW:=zh (fun V (hV:Below W0.heap.size W0 V)=>(show V.cell? ⟨w.heap.size,0,none⟩=some (.int .i64 s.K)∧V.cell? ⟨w.heap.size,1,none⟩=some (.int .i64 s.M)∧V.cell? ⟨w.heap.size,2,none⟩=some (.int .i64 s.size) from by
  have r:=(hV.block _ hz).trans hrow
  exact⟨zo 0 r,zo 1 r,zo 2 r⟩))
 have mS:=zh (fun W (hW:Below W0.heap.size W0 W)=>hal.trans (hW.mono (Nat.le_of_lt hz)));clear hrow hal;go_wp2_with fail
 go_loopw [5] (fun i wr=>∃k:Nat,k≤n∧i=.int .i64 k∧Hid (Below W0.heap.size W0 wr)∧Hid (∀j,j<k→zL s l j=true)) (fun i _=>n - (intOf i).toNat)
 case atStart=>exact⟨0,Nat.zero_le _,rfl,zh (Below.refl _ _),zh (fun j hj=>by omega)⟩
 case round=>
  obtain⟨k,hk,rfl,HB,he⟩:=hrel;by_cases hlt:k<n
  ·obtain⟨b,o,A3,n3,c3,rfl,_,hbl,i1,i2,i3,hpl,z0,z1,z2,z3,_⟩:=H.out.Bu hlt;have hat:zL s l k=(ze s (l.getD k default)&&!(decide (0<k)&&decide ((l.getD k default).id≤(l.getD (k - 1) default).id))):=rfl
   have Hz:0<k→W0.cell? ⟨b,o+(k - 1)* 4,none⟩=some (.int .i64 (l.getD (k - 1) default).id):=fun h0k=>by
    obtain⟨b',o',_,_,_,e,_,_,_,_,_,_,zz,_⟩:=H.out.Bu (show k - 1<n by omega);injection e with e;injection e with e1 e2;subst e1 e2;exact zz
   have HPREV:=zh Hz;clear Hz;generalize l.getD k default=x at *;generalize (l.getD (k - 1) default).id=xp at *;have nr:=zh hat;clear hat;have Gf:=zh (fun hf:zL s l k=false=>Qg (s:=s) (l:=l) (by have:=HL.out;omega) hf)
   have uJ:=zh (fun(hf:zL s l k=true) j (hj:j<k+1)=>(show zL s l j=true from by
    rcases Nat.lt_or_ge j k with hjk|hjk
    ·exact he.out j hjk
    obtain rfl:j=k:=by omega
    exact hf))
   have J0:=zh (fun V (hV:Below W0.heap.size W0 V)=>hpl.all hV);clear hpl;have x5:=zh (fun w6 (hb:Below W0.heap.size W0 w6)=>And.intro (ROW.out w6 hb).1 (And.intro (ROW.out w6 hb).2.1 (And.intro (ROW.out w6 hb).2.2 (And.intro ((hb.cell (p:=⟨b,o+k* 4,none⟩) hbl).trans z0) (And.intro ((hb.cell (p:=⟨b,o+k* 4+1,none⟩) hbl).trans z1) (And.intro ((hb.cell (p:=⟨b,o+k* 4+2,none⟩) hbl).trans z2) (And.intro ((hb.cell (p:=⟨b,o+k* 4+3,none⟩) hbl).trans z3) (fun h0k:0<k=>(hb.cell (p:=⟨b,o+(k - 1)* 4,none⟩) hbl).trans (HPREV.out h0k)))))))));clear z0 z1 z2 z3 i1 i2 i3 he
   cases hok:ze s x with
   |false=>
    have uz:=zh hok;have HF:Hid ((qW s l&&qt s)=false):=zh (by rw[Gf.out (by rw[nr.out,hok];rfl)];rfl);clear hok uJ;go_wp2_with fail
    refine rF 39 rfl [12,13,14,15,16,17,18,19,20,21,22,23,24,25,26,27,28,29,30,31,32,33,34,35,36] [5]
      [kp 12 (.agg #[.int .i64 s.K,.int .i64 s.M,.int .i64 s.size]),kp 13 ((.slice (some ⟨b,o,none⟩) n c)),ki 14 k,kq 15 (b) (o+k* 4),kp 16 (.agg #[.int .i64 x.id,.int .i64 x.len,.int .i64 x.gen,.slice A3 n3 c3]),(18,[5],fun _=>.bool true),(19,[5],fun _=>.bool true),kt 36]
      [] [] (BZ wr (fun i v _=>i=5→v=.bool false)) .init ⟨?_,.a,.a,?_,?_,?_,?_,.a,.b,.b,.b,.c,.c,.c,.c,.c,.c,.c,.c,.c,.c,.c,.c,.b,.a,trivial⟩ ?_
    ·(refine .r1 ((.pointer (some ⟨w.heap.size,0,none⟩))) fun _ _ w6 e2 _ _ _ hW=>?_;obtain⟨k0,k1,k2,z0,z1,z2,z3,zp⟩:=x5.out w6 (zu HB hW.1);simp only[execOp,e2];go_simp;try rfl)
    ·(refine .r2 ((.slice (some ⟨b,o,none⟩) n c)) (.int .i64 (k:Int)) fun _ _ _ Hj uC _ _ _ _=>?_;simp only[execOp,Hj,uC];go_simp;try rfl)
    ·(refine .r1 (.pointer (some ⟨b,o+k* 4,none⟩)) fun _ _ w6 Hk _ _ _ hW=>?_;obtain⟨k0,k1,k2,z0,z1,z2,z3,zp⟩:=x5.out w6 (zu HB hW.1);simp only[execOp,Hk];go_simp;try rfl)
    ·refine Bh.wr rfl (fun Z us w6 ho ht hni hlim gi hW K hK=>?_);have e12:=zv (ht 12 (by decide)) (.agg #[.int .i64 s.K,.int .i64 s.M,.int .i64 s.size]) rfl;have e16:=zv (ht 16 (by decide)) (.agg #[.int .i64 x.id,.int .i64 x.len,.int .i64 x.gen,.slice A3 n3 c3]) rfl;have hcl:=xO (w:=w6) (s:=s) (x:=x) (J0.out w6 (zu HB hW.1));rw[uz.out] at hcl;refine qn rfl 83 #[.tmp 12,.tmp 16] #[23,86] rfl Tryz.func83 (by kernel_rfl) (by kernel_rfl) #[.agg #[.int .i64 s.K,.int .i64 s.M,.int .i64 s.size],.agg #[.int .i64 x.id,.int .i64 x.len,.int .i64 x.gen,.slice A3 n3 c3]] (by simp[e12,e16];try first|done|rfl|exact⟨rfl,rfl⟩) (hcl) ?_;rintro e w7 ⟨rfl,gv⟩;exact⟨_,rfl,hK _ _ (hW.snoc gv (fun j v h=>h) (fun _=>rfl))⟩
    ·(refine Bh.rd rfl rfl (fun ρ us w6 ho ht hc hl hsrc hW=>?_);have e17:=zv (ht 17 (by decide)) ((us.lookup 5).getD undef) rfl;rw[hW.at_ (hsrc 5 (by exact(List.mem_singleton.2 rfl:(5:Nat)∈[5]))) rfl] at e17;clear ht ho;simp only[execOp,e17];go_simp;try rfl)
    intro us w9 hmem hW;simp only[qa,BG,BH,BI,BJ,Act.put,BC,BD,BF];generalize mh:qx _ _ us=sv;have hq:sv 36=.bool true:=(by rw[←mh];rfl);rw[hq];have HB:=zh (zu HB hW.1);clear mh hq hmem hW;clear x5 J0;go_wp2
    go_ret
    exact⟨by rw[HF.out];rfl,mS.out _ HB.out⟩
   |true=>
    have uz:=zh hok;by_cases u5:0<k
    ·have hk1:k - 1<n:=(by omega);by_cases hle:x.id≤xp
     ·have HF:Hid ((qW s l&&qt s)=false):=zh (by rw[Gf.out (by rw[nr.out,hok,decide_eq_true u5,decide_eq_true hle];rfl)];rfl);clear hok uJ;go_wp2_with fail
      refine rF 39 rfl [12,13,14,15,16,17,18,19,20,21,22,23,24,25,26,27,28,29,30,31,32,33,34,35,36] [5]
        [kp 12 (.agg #[.int .i64 s.K,.int .i64 s.M,.int .i64 s.size]),kp 13 ((.slice (some ⟨b,o,none⟩) n c)),ki 14 k,kq 15 (b) (o+k* 4),kp 16 (.agg #[.int .i64 x.id,.int .i64 x.len,.int .i64 x.gen,.slice A3 n3 c3]),(18,[5],fun _=>.bool false),(19,[5],fun _=>.bool false),ki 20 k,kt 21,kt 22,kp 23 ((.slice (some ⟨b,o,none⟩) n c)),ki 24 k,kp 25 (.int .i64 ((k - 1:Nat):Int)),kp 26 (pt (b) (o+(k - 1)* 4)),kp 27 (pt (b) (o+(k - 1)* 4)),kp 28 (.int .i64 xp),kp 29 ((.slice (some ⟨b,o,none⟩) n c)),ki 30 k,kq 31 (b) (o+k* 4),kq 32 (b) (o+k* 4),kp 33 (.int .i64 x.id),kt 34,kt 35,kt 36]
        [] [] (BZ wr (fun i v _=>i=5→v=.bool true)) .init ⟨?_,.a,.a,?_,?_,?_,?_,.a,.a,?_,.a,.a,.a,?_,?_,.a,?_,.a,.a,?_,.a,.l (a:=⟨b,o+k* 4,none⟩) fun us w6 hW _=>(by obtain⟨k0,k1,k2,z0,z1,z2,z3,zp⟩:=x5.out w6 (zu HB hW.1);assumption),?_,.a,.a,trivial⟩ ?_
      ·(refine .r1 ((.pointer (some ⟨w.heap.size,0,none⟩))) fun _ _ w6 e2 _ _ _ hW=>?_;obtain⟨k0,k1,k2,z0,z1,z2,z3,zp⟩:=x5.out w6 (zu HB hW.1);simp only[execOp,e2];go_simp;try rfl)
      ·(refine .r2 ((.slice (some ⟨b,o,none⟩) n c)) (.int .i64 (k:Int)) fun _ _ _ Hj uC _ _ _ _=>?_;simp only[execOp,Hj,uC];go_simp;try rfl)
      ·(refine .r1 (.pointer (some ⟨b,o+k* 4,none⟩)) fun _ _ w6 Hk _ _ _ hW=>?_;obtain⟨k0,k1,k2,z0,z1,z2,z3,zp⟩:=x5.out w6 (zu HB hW.1);simp only[execOp,Hk];go_simp;try rfl)
      ·refine Bh.wr rfl (fun Z us w6 ho ht hni hlim gi hW K hK=>?_);have e12:=zv (ht 12 (by decide)) (.agg #[.int .i64 s.K,.int .i64 s.M,.int .i64 s.size]) rfl;have e16:=zv (ht 16 (by decide)) (.agg #[.int .i64 x.id,.int .i64 x.len,.int .i64 x.gen,.slice A3 n3 c3]) rfl;have hcl:=xO (w:=w6) (s:=s) (x:=x) (J0.out w6 (zu HB hW.1));rw[uz.out] at hcl;refine qn rfl 83 #[.tmp 12,.tmp 16] #[23,86] rfl Tryz.func83 (by kernel_rfl) (by kernel_rfl) #[.agg #[.int .i64 s.K,.int .i64 s.M,.int .i64 s.size],.agg #[.int .i64 x.id,.int .i64 x.len,.int .i64 x.gen,.slice A3 n3 c3]] (by simp[e12,e16];try first|done|rfl|exact⟨rfl,rfl⟩) (hcl) ?_;rintro e w7 ⟨rfl,gv⟩;exact⟨_,rfl,hK _ _ (hW.snoc gv (fun j v h=>h) (fun _=>rfl))⟩
      ·(refine Bh.rd rfl rfl (fun ρ us w6 ho ht hc hl hsrc hW=>?_);have e17:=zv (ht 17 (by decide)) ((us.lookup 5).getD undef) rfl;rw[hW.at_ (hsrc 5 (by exact(List.mem_singleton.2 rfl:(5:Nat)∈[5]))) rfl] at e17;clear ht ho;simp only[execOp,e17];go_simp;try rfl)
      ·(refine .r1 (.int .i64 (k:Int)) fun _ _ _ yb _ _ _ _=>?_;simp only[execOp,yb];go_simp;first|rfl|exact congrArg Value.bool (decide_eq_true (by omega))|exact congrArg Value.bool (decide_eq_false (by omega))|(simp;done)|(simp;omega))
      ·(refine .r1 (.int .i64 (k:Int)) fun _ _ _ rD _ _ _ _=>?_;simp only[execOp,rD];go_simp;exact(congrArg (Value.int .i64) (Go.IntWalk.i64_in _ (by omega))).trans (congrArg (Value.int .i64) (by omega)))
      ·(refine .r2 ((.slice (some ⟨b,o,none⟩) n c)) (.int .i64 ((k - 1:Nat):Int)) fun _ _ _ e23 rQ _ _ _ _=>?_;simp only[execOp,e23,rQ];go_simp;try rfl)
      ·(refine .r1 (.pointer (some ⟨b,o+(k - 1)* 4,none⟩)) fun _ _ w6 yc _ _ _ hW=>?_;obtain⟨k0,k1,k2,z0,z1,z2,z3,zp⟩:=x5.out w6 (zu HB hW.1);simp only[execOp,yc];go_simp;try rfl)
      ·(refine .r2 ((.slice (some ⟨b,o,none⟩) n c)) (.int .i64 (k:Int)) fun _ _ _ rB uD _ _ _ _=>?_;simp only[execOp,rB,uD];go_simp;try rfl)
      ·(refine .r2 (.int .i64 xp) (.int .i64 x.id) fun _ _ _ uQ uN _ _ _ _=>?_;simp only[execOp,uQ,uN];go_simp;first|rfl|exact congrArg Value.bool (decide_eq_true (by omega))|exact congrArg Value.bool (decide_eq_false (by omega))|(simp;done)|(simp;omega))
      intro us w9 hmem hW;simp only[qa,BG,BH,BI,BJ,Act.put,BC,BD,BF];generalize mh:qx _ _ us=sv;have hq:sv 36=.bool true:=(by rw[←mh];rfl);rw[hq];have HB:=zh (zu HB hW.1);clear mh hq hmem hW;clear x5 J0;go_wp2
      go_ret
      exact⟨by rw[HF.out];rfl,mS.out _ HB.out⟩
     have HF:=zh (uJ.out (by rw[nr.out,hok,decide_eq_true u5,decide_eq_false hle];rfl));clear hok uJ;go_wp2_with fail
     refine rF 39 rfl [12,13,14,15,16,17,18,19,20,21,22,23,24,25,26,27,28,29,30,31,32,33,34,35,36] [5]
       [kp 12 (.agg #[.int .i64 s.K,.int .i64 s.M,.int .i64 s.size]),kp 13 ((.slice (some ⟨b,o,none⟩) n c)),ki 14 k,kq 15 (b) (o+k* 4),kp 16 (.agg #[.int .i64 x.id,.int .i64 x.len,.int .i64 x.gen,.slice A3 n3 c3]),(18,[5],fun _=>.bool false),(19,[5],fun _=>.bool false),ki 20 k,kt 21,kt 22,kp 23 ((.slice (some ⟨b,o,none⟩) n c)),ki 24 k,kp 25 (.int .i64 ((k - 1:Nat):Int)),kp 26 (pt (b) (o+(k - 1)* 4)),kp 27 (pt (b) (o+(k - 1)* 4)),kp 28 (.int .i64 xp),kp 29 ((.slice (some ⟨b,o,none⟩) n c)),ki 30 k,kq 31 (b) (o+k* 4),kq 32 (b) (o+k* 4),kp 33 (.int .i64 x.id),kf 34,kf 35,kf 36]
       [] [] (BZ wr (fun i v _=>i=5→v=.bool true)) .init ⟨?_,.a,.a,?_,?_,?_,?_,.a,.a,?_,.a,.a,.a,?_,?_,.a,?_,.a,.a,?_,.a,.l (a:=⟨b,o+k* 4,none⟩) fun us w6 hW _=>(by obtain⟨k0,k1,k2,z0,z1,z2,z3,zp⟩:=x5.out w6 (zu HB hW.1);assumption),?_,.a,.a,trivial⟩ ?_
     ·(refine .r1 ((.pointer (some ⟨w.heap.size,0,none⟩))) fun _ _ w6 e2 _ _ _ hW=>?_;obtain⟨k0,k1,k2,z0,z1,z2,z3,zp⟩:=x5.out w6 (zu HB hW.1);simp only[execOp,e2];go_simp;try rfl)
     ·(refine .r2 ((.slice (some ⟨b,o,none⟩) n c)) (.int .i64 (k:Int)) fun _ _ _ Hj uC _ _ _ _=>?_;simp only[execOp,Hj,uC];go_simp;try rfl)
     ·(refine .r1 (.pointer (some ⟨b,o+k* 4,none⟩)) fun _ _ w6 Hk _ _ _ hW=>?_;obtain⟨k0,k1,k2,z0,z1,z2,z3,zp⟩:=x5.out w6 (zu HB hW.1);simp only[execOp,Hk];go_simp;try rfl)
     ·refine Bh.wr rfl (fun Z us w6 ho ht hni hlim gi hW K hK=>?_);have e12:=zv (ht 12 (by decide)) (.agg #[.int .i64 s.K,.int .i64 s.M,.int .i64 s.size]) rfl;have e16:=zv (ht 16 (by decide)) (.agg #[.int .i64 x.id,.int .i64 x.len,.int .i64 x.gen,.slice A3 n3 c3]) rfl;have hcl:=xO (w:=w6) (s:=s) (x:=x) (J0.out w6 (zu HB hW.1));rw[uz.out] at hcl;refine qn rfl 83 #[.tmp 12,.tmp 16] #[23,86] rfl Tryz.func83 (by kernel_rfl) (by kernel_rfl) #[.agg #[.int .i64 s.K,.int .i64 s.M,.int .i64 s.size],.agg #[.int .i64 x.id,.int .i64 x.len,.int .i64 x.gen,.slice A3 n3 c3]] (by simp[e12,e16];try first|done|rfl|exact⟨rfl,rfl⟩) (hcl) ?_;rintro e w7 ⟨rfl,gv⟩;exact⟨_,rfl,hK _ _ (hW.snoc gv (fun j v h=>h) (fun _=>rfl))⟩
     ·(refine Bh.rd rfl rfl (fun ρ us w6 ho ht hc hl hsrc hW=>?_);have e17:=zv (ht 17 (by decide)) ((us.lookup 5).getD undef) rfl;rw[hW.at_ (hsrc 5 (by exact(List.mem_singleton.2 rfl:(5:Nat)∈[5]))) rfl] at e17;clear ht ho;simp only[execOp,e17];go_simp;try rfl)
     ·(refine .r1 (.int .i64 (k:Int)) fun _ _ _ yb _ _ _ _=>?_;simp only[execOp,yb];go_simp;first|rfl|exact congrArg Value.bool (decide_eq_true (by omega))|exact congrArg Value.bool (decide_eq_false (by omega))|(simp;done)|(simp;omega))
     ·(refine .r1 (.int .i64 (k:Int)) fun _ _ _ rD _ _ _ _=>?_;simp only[execOp,rD];go_simp;exact(congrArg (Value.int .i64) (Go.IntWalk.i64_in _ (by omega))).trans (congrArg (Value.int .i64) (by omega)))
     ·(refine .r2 ((.slice (some ⟨b,o,none⟩) n c)) (.int .i64 ((k - 1:Nat):Int)) fun _ _ _ e23 rQ _ _ _ _=>?_;simp only[execOp,e23,rQ];go_simp;try rfl)
     ·(refine .r1 (.pointer (some ⟨b,o+(k - 1)* 4,none⟩)) fun _ _ w6 yc _ _ _ hW=>?_;obtain⟨k0,k1,k2,z0,z1,z2,z3,zp⟩:=x5.out w6 (zu HB hW.1);simp only[execOp,yc];go_simp;try rfl)
     ·(refine .r2 ((.slice (some ⟨b,o,none⟩) n c)) (.int .i64 (k:Int)) fun _ _ _ rB uD _ _ _ _=>?_;simp only[execOp,rB,uD];go_simp;try rfl)
     ·(refine .r2 (.int .i64 xp) (.int .i64 x.id) fun _ _ _ uQ uN _ _ _ _=>?_;simp only[execOp,uQ,uN];go_simp;first|rfl|exact congrArg Value.bool (decide_eq_true (by omega))|exact congrArg Value.bool (decide_eq_false (by omega))|(simp;done)|(simp;omega))
     intro us w9 hmem hW;simp only[qa,BG,BH,BI,BJ,Act.put,BC,BD,BF];generalize mh:qx _ _ us=sv;have hq:sv 36=.bool false:=(by rw[←mh];rfl);rw[hq];have HB:=zh (zu HB hW.1);clear mh hq hmem hW;clear x5 J0;go_wp2
     exact⟨⟨k+1,by omega,by go_num,HB,HF⟩,by simp[intOf];omega⟩
    have HF:=zh (uJ.out (by rw[nr.out,hok,decide_eq_false u5];rfl));clear hok uJ;go_wp2_with fail
    refine rF 39 rfl [12,13,14,15,16,17,18,19,20,21,22,23,24,25,26,27,28,29,30,31,32,33,34,35,36] [5]
      [kp 12 (.agg #[.int .i64 s.K,.int .i64 s.M,.int .i64 s.size]),kp 13 ((.slice (some ⟨b,o,none⟩) n c)),ki 14 k,kq 15 (b) (o+k* 4),kp 16 (.agg #[.int .i64 x.id,.int .i64 x.len,.int .i64 x.gen,.slice A3 n3 c3]),(18,[5],fun _=>.bool false),(19,[5],fun _=>.bool false),ki 20 k,kf 21,kf 22,kf 35,kf 36]
      [] [] (BZ wr (fun i v _=>i=5→v=.bool true)) .init ⟨?_,.a,.a,?_,?_,?_,?_,.a,.a,?_,.a,.b,.b,.b,.b,.b,.b,.b,.b,.b,.b,.b,.b,.a,.a,trivial⟩ ?_
    ·(refine .r1 ((.pointer (some ⟨w.heap.size,0,none⟩))) fun _ _ w6 e2 _ _ _ hW=>?_;obtain⟨k0,k1,k2,z0,z1,z2,z3,zp⟩:=x5.out w6 (zu HB hW.1);simp only[execOp,e2];go_simp;try rfl)
    ·(refine .r2 ((.slice (some ⟨b,o,none⟩) n c)) (.int .i64 (k:Int)) fun _ _ _ Hj uC _ _ _ _=>?_;simp only[execOp,Hj,uC];go_simp;try rfl)
    ·(refine .r1 (.pointer (some ⟨b,o+k* 4,none⟩)) fun _ _ w6 Hk _ _ _ hW=>?_;obtain⟨k0,k1,k2,z0,z1,z2,z3,zp⟩:=x5.out w6 (zu HB hW.1);simp only[execOp,Hk];go_simp;try rfl)
    ·refine Bh.wr rfl (fun Z us w6 ho ht hni hlim gi hW K hK=>?_);have e12:=zv (ht 12 (by decide)) (.agg #[.int .i64 s.K,.int .i64 s.M,.int .i64 s.size]) rfl;have e16:=zv (ht 16 (by decide)) (.agg #[.int .i64 x.id,.int .i64 x.len,.int .i64 x.gen,.slice A3 n3 c3]) rfl;have hcl:=xO (w:=w6) (s:=s) (x:=x) (J0.out w6 (zu HB hW.1));rw[uz.out] at hcl;refine qn rfl 83 #[.tmp 12,.tmp 16] #[23,86] rfl Tryz.func83 (by kernel_rfl) (by kernel_rfl) #[.agg #[.int .i64 s.K,.int .i64 s.M,.int .i64 s.size],.agg #[.int .i64 x.id,.int .i64 x.len,.int .i64 x.gen,.slice A3 n3 c3]] (by simp[e12,e16];try first|done|rfl|exact⟨rfl,rfl⟩) (hcl) ?_;rintro e w7 ⟨rfl,gv⟩;exact⟨_,rfl,hK _ _ (hW.snoc gv (fun j v h=>h) (fun _=>rfl))⟩
    ·(refine Bh.rd rfl rfl (fun ρ us w6 ho ht hc hl hsrc hW=>?_);have e17:=zv (ht 17 (by decide)) ((us.lookup 5).getD undef) rfl;rw[hW.at_ (hsrc 5 (by exact(List.mem_singleton.2 rfl:(5:Nat)∈[5]))) rfl] at e17;clear ht ho;simp only[execOp,e17];go_simp;try rfl)
    ·(refine .r1 (.int .i64 (k:Int)) fun _ _ _ yb _ _ _ _=>?_;simp only[execOp,yb];go_simp;first|rfl|exact congrArg Value.bool (decide_eq_true (by omega))|exact congrArg Value.bool (decide_eq_false (by omega))|(simp;done)|(simp;omega))
    intro us w9 hmem hW;simp only[qa,BG,BH,BI,BJ,Act.put,BC,BD,BF];generalize mh:qx _ _ us=sv;have hq:sv 36=.bool false:=(by rw[←mh];rfl);rw[hq];have HB:=zh (zu HB hW.1);clear mh hq hmem hW;clear x5 J0;go_wp2
    exact⟨⟨k+1,by omega,by go_num,HB,HF⟩,by simp[intOf];omega⟩
  have HF:Hid (qW s l=true):=zh (jH (fun j hj=>he.out j (by have:=HL.out;omega)));obtain⟨k0,k1,k2⟩:=ROW.out wr HB.out;go_wp2_with fail
  refine(Cq (s:=s)).mono ?_;clear k0 k1 k2;rintro r w9 ⟨rfl,gW⟩;have gF:=zt HB gW;clear gW;go_wp2
  go_ret
  exact⟨by rw[HF.out];rfl,mS.out _ gF.out⟩
end Go.Proofs.YtipecejghioicaaGreat
