import Derived.Test.YtipecejghioicaaGreatQ5v
import Derived.Test.YtipecejghioicaaGreatQ8v
set_option maxHeartbeats 8000000
set_option maxRecDepth 100000
namespace Go.Proofs.YtipecejghioicaaGreat
open Go.RowKit Go.Silo
def zN (s:Shape) (l:List Bb) (k:Nat):Bool:=zg s (l.getD k default)&&!(decide (0<k)&&decide ((l.getD k default).id≤(l.getD (k - 1) default).id))
def qY (s:Shape) (l:List Bb):Bool:=(List.range l.length).all (zN s l)
theorem kj {s:Shape}{l:List Bb}(h:∀j,j<l.length→zN s l j=true):qY s l=true:=List.all_eq_true.2 fun i hi=>h i (List.mem_range.1 hi)
theorem QW {s:Shape}{l:List Bb}{k:Nat}(hk:k<l.length) (h:zN s l k=false):qY s l=false:=by
 cases hh:qY s l with
 |false=>rfl
 |true=>have:=List.all_eq_true.1 hh k (List.mem_range.2 hk);rw[h] at this;cases this
theorem ZY {tg tg1:Bool}{S:Nat→Prop}{w:World}{A:Option Addr}{n c:Nat}{s:Shape}{l:List Bb}(h:Sl tg 86 (qc tg1) w S A n c l):
  Calls Tryz.prog 49 #[.agg #[.int .i64 s.K,.int .i64 s.M,.int .i64 s.size],.slice A n c] w (Bh (.bool (qY s l&&qo s)) w):=by
 have HL:=zh h.len;have hcap:n≤9223372036854775807:=Nat.le_trans h.le h.cap;have hal:Below w.heap.size w (w.alloc (.cells #[.int .i64 s.K,.int .i64 s.M,.int .i64 s.size] 23)):=bz;have H:=zh (h.all hal);have hrow:=heap_alloc_new w (.cells #[.int .i64 s.K,.int .i64 s.M,.int .i64 s.size] 23);have hz:w.heap.size<(w.alloc (.cells #[.int .i64 s.K,.int .i64 s.M,.int .i64 s.size] 23)).heap.size:=by simp
 clear h
 go_enter Tryz.func49,Tryz.ntmps49
 go_upto_region 1 with (fail)
 generalize w.alloc (.cells #[.int .i64 s.K,.int .i64 s.M,.int .i64 s.size] 23)=W0 at *
 have ROW:=zh (fun V (hV:Below W0.heap.size W0 V)=>(show V.cell? ⟨w.heap.size,0,none⟩=some (.int .i64 s.K)∧V.cell? ⟨w.heap.size,1,none⟩=some (.int .i64 s.M)∧V.cell? ⟨w.heap.size,2,none⟩=some (.int .i64 s.size) from by
  have r:=(hV.block _ hz).trans hrow
  exact⟨zo 0 r,zo 1 r,zo 2 r⟩))
 have mD:=zh (fun W (hW:Below W0.heap.size W0 W)=>hal.trans (hW.mono (Nat.le_of_lt hz)));clear hrow hal;go_wp2_with fail
 go_loopw [5] (fun i wr=>∃k:Nat,k≤n∧i=.int .i64 k∧Hid (Below W0.heap.size W0 wr)∧Hid (∀j,j<k→zN s l j=true)) (fun i _=>n - (intOf i).toNat)
 case atStart=>exact⟨0,Nat.zero_le _,rfl,zh (Below.refl _ _),zh (fun j hj=>by omega)⟩
 case round=>
  obtain⟨k,hk,rfl,HB,he⟩:=hrel;by_cases hlt:k<n
  ·obtain⟨b,o,A3,n3,c3,rfl,_,hbl,i1,i2,i3,hpl,z0,z1,z2,z3,_⟩:=H.out.Br hlt;have hat:zN s l k=(zg s (l.getD k default)&&!(decide (0<k)&&decide ((l.getD k default).id≤(l.getD (k - 1) default).id))):=rfl
   have Mw:0<k→W0.cell? ⟨b,o+(k - 1)* 4,none⟩=some (.int .i64 (l.getD (k - 1) default).id):=fun h0k=>by
    obtain⟨b',o',_,_,_,e,_,_,_,_,_,_,zz,_⟩:=H.out.Br (show k - 1<n by omega);injection e with e;injection e with e1 e2;subst e1 e2;exact zz
   have HPREV:=zh Mw;clear Mw;generalize l.getD k default=x at *;generalize (l.getD (k - 1) default).id=xp at *;have mU:=zh hat;clear hat;have GJ:=zh (fun hf:zN s l k=false=>QW (s:=s) (l:=l) (by have:=HL.out;omega) hf)
   have uz:=zh (fun(hf:zN s l k=true) j (hj:j<k+1)=>(show zN s l j=true from by
    rcases Nat.lt_or_ge j k with hjk|hjk
    ·exact he.out j hjk
    obtain rfl:j=k:=by omega
    exact hf))
   have vE:=zh (fun V (hV:Below W0.heap.size W0 V)=>hpl.all hV);clear hpl;have vV:=zh (fun w6 (hb:Below W0.heap.size W0 w6)=>And.intro (ROW.out w6 hb).1 (And.intro (ROW.out w6 hb).2.1 (And.intro (ROW.out w6 hb).2.2 (And.intro ((hb.cell (p:=⟨b,o+k* 4,none⟩) hbl).trans z0) (And.intro ((hb.cell (p:=⟨b,o+k* 4+1,none⟩) hbl).trans z1) (And.intro ((hb.cell (p:=⟨b,o+k* 4+2,none⟩) hbl).trans z2) (And.intro ((hb.cell (p:=⟨b,o+k* 4+3,none⟩) hbl).trans z3) (fun h0k:0<k=>(hb.cell (p:=⟨b,o+(k - 1)* 4,none⟩) hbl).trans (HPREV.out h0k)))))))));clear z0 z1 z2 z3 i1 i2 i3 he
   cases hok:zg s x with
   |false=>
    have nu:=zh hok;have HF:Hid ((qY s l&&qo s)=false):=zh (by rw[GJ.out (by rw[mU.out,hok];rfl)];rfl);clear hok uz;go_wp2_with fail
    refine rF 39 rfl [12,13,14,15,16,17,18,19,20,21,22,23,24,25,26,27,28,29,30,31,32,33,34,35,36] [5]
      [kp 12 (.agg #[.int .i64 s.K,.int .i64 s.M,.int .i64 s.size]),kp 13 ((.slice (some ⟨b,o,none⟩) n c)),ki 14 k,kq 15 (b) (o+k* 4),kp 16 (.agg #[.int .i64 x.id,.int .i64 x.len,.int .i64 x.gen,.slice A3 n3 c3]),(18,[5],fun _=>.bool true),(19,[5],fun _=>.bool true),kt 36]
      [] [] (Ca wr (fun i v _=>i=5→v=.bool false)) .init ⟨?_,.a,.a,?_,?_,?_,?_,.a,.b,.b,.b,.c,.c,.c,.c,.c,.c,.c,.c,.c,.c,.c,.c,.b,.a,trivial⟩ ?_
    ·(refine .r1 ((.pointer (some ⟨w.heap.size,0,none⟩))) fun _ _ w6 e2 _ _ _ hW=>?_;obtain⟨k0,k1,k2,z0,z1,z2,z3,zp⟩:=vV.out w6 (zu HB hW.1);simp only[execOp,e2];go_simp;try rfl)
    ·(refine .r2 ((.slice (some ⟨b,o,none⟩) n c)) (.int .i64 (k:Int)) fun _ _ _ H7 uq _ _ _ _=>?_;simp only[execOp,H7,uq];go_simp;try rfl)
    ·(refine .r1 (.pointer (some ⟨b,o+k* 4,none⟩)) fun _ _ w6 Mc _ _ _ hW=>?_;obtain⟨k0,k1,k2,z0,z1,z2,z3,zp⟩:=vV.out w6 (zu HB hW.1);simp only[execOp,Mc];go_simp;try rfl)
    ·refine Bi.wr rfl (fun Z us w6 ho ht hni hlim gf hW K hK=>?_);have e12:=zv (ht 12 (by decide)) (.agg #[.int .i64 s.K,.int .i64 s.M,.int .i64 s.size]) rfl;have e16:=zv (ht 16 (by decide)) (.agg #[.int .i64 x.id,.int .i64 x.len,.int .i64 x.gen,.slice A3 n3 c3]) rfl;have hcl:=jf (w:=w6) (s:=s) (x:=x) (vE.out w6 (zu HB hW.1));rw[nu.out] at hcl;refine qh rfl 83 #[.tmp 12,.tmp 16] #[23,86] rfl Tryz.func83 (by kernel_rfl) (by kernel_rfl) #[.agg #[.int .i64 s.K,.int .i64 s.M,.int .i64 s.size],.agg #[.int .i64 x.id,.int .i64 x.len,.int .i64 x.gen,.slice A3 n3 c3]] (by simp[e12,e16];try first|done|rfl|exact⟨rfl,rfl⟩) (hcl) ?_;rintro e w7 ⟨rfl,gy⟩;exact⟨_,rfl,hK _ _ (hW.snoc gy (fun j v h=>h) (fun _=>rfl))⟩
    ·(refine Bi.rd rfl rfl (fun ρ us w6 ho ht hc hl hsrc hW=>?_);have e17:=zv (ht 17 (by decide)) ((us.lookup 5).getD undef) rfl;rw[hW.at_ (hsrc 5 (by exact(List.mem_singleton.2 rfl:(5:Nat)∈[5]))) rfl] at e17;clear ht ho;simp only[execOp,e17];go_simp;try rfl)
    intro us w9 hmem hW;simp only[qb,BC,BD,BF,BG,Act.put,Bz,BA,BB];generalize gU:qs _ _ us=sv;have hq:sv 36=.bool true:=(by rw[←gU];rfl);rw[hq];have HB:=zh (zu HB hW.1);clear gU hq hmem hW;clear vV vE;go_wp2
    go_ret
    exact⟨by rw[HF.out];rfl,mD.out _ HB.out⟩
   |true=>
    have nu:=zh hok;by_cases rR:0<k
    ·have hk1:k - 1<n:=(by omega);by_cases hle:x.id≤xp
     ·have HF:Hid ((qY s l&&qo s)=false):=zh (by rw[GJ.out (by rw[mU.out,hok,decide_eq_true rR,decide_eq_true hle];rfl)];rfl);clear hok uz;go_wp2_with fail
      refine rF 39 rfl [12,13,14,15,16,17,18,19,20,21,22,23,24,25,26,27,28,29,30,31,32,33,34,35,36] [5]
        [kp 12 (.agg #[.int .i64 s.K,.int .i64 s.M,.int .i64 s.size]),kp 13 ((.slice (some ⟨b,o,none⟩) n c)),ki 14 k,kq 15 (b) (o+k* 4),kp 16 (.agg #[.int .i64 x.id,.int .i64 x.len,.int .i64 x.gen,.slice A3 n3 c3]),(18,[5],fun _=>.bool false),(19,[5],fun _=>.bool false),ki 20 k,kt 21,kt 22,kp 23 ((.slice (some ⟨b,o,none⟩) n c)),ki 24 k,kp 25 (.int .i64 ((k - 1:Nat):Int)),kp 26 (pt (b) (o+(k - 1)* 4)),kp 27 (pt (b) (o+(k - 1)* 4)),kp 28 (.int .i64 xp),kp 29 ((.slice (some ⟨b,o,none⟩) n c)),ki 30 k,kq 31 (b) (o+k* 4),kq 32 (b) (o+k* 4),kp 33 (.int .i64 x.id),kt 34,kt 35,kt 36]
        [] [] (Ca wr (fun i v _=>i=5→v=.bool true)) .init ⟨?_,.a,.a,?_,?_,?_,?_,.a,.a,?_,.a,.a,.a,?_,?_,.a,?_,.a,.a,?_,.a,.l (a:=⟨b,o+k* 4,none⟩) fun us w6 hW _=>(by obtain⟨k0,k1,k2,z0,z1,z2,z3,zp⟩:=vV.out w6 (zu HB hW.1);assumption),?_,.a,.a,trivial⟩ ?_
      ·(refine .r1 ((.pointer (some ⟨w.heap.size,0,none⟩))) fun _ _ w6 e2 _ _ _ hW=>?_;obtain⟨k0,k1,k2,z0,z1,z2,z3,zp⟩:=vV.out w6 (zu HB hW.1);simp only[execOp,e2];go_simp;try rfl)
      ·(refine .r2 ((.slice (some ⟨b,o,none⟩) n c)) (.int .i64 (k:Int)) fun _ _ _ H7 uq _ _ _ _=>?_;simp only[execOp,H7,uq];go_simp;try rfl)
      ·(refine .r1 (.pointer (some ⟨b,o+k* 4,none⟩)) fun _ _ w6 Mc _ _ _ hW=>?_;obtain⟨k0,k1,k2,z0,z1,z2,z3,zp⟩:=vV.out w6 (zu HB hW.1);simp only[execOp,Mc];go_simp;try rfl)
      ·refine Bi.wr rfl (fun Z us w6 ho ht hni hlim gf hW K hK=>?_);have e12:=zv (ht 12 (by decide)) (.agg #[.int .i64 s.K,.int .i64 s.M,.int .i64 s.size]) rfl;have e16:=zv (ht 16 (by decide)) (.agg #[.int .i64 x.id,.int .i64 x.len,.int .i64 x.gen,.slice A3 n3 c3]) rfl;have hcl:=jf (w:=w6) (s:=s) (x:=x) (vE.out w6 (zu HB hW.1));rw[nu.out] at hcl;refine qh rfl 83 #[.tmp 12,.tmp 16] #[23,86] rfl Tryz.func83 (by kernel_rfl) (by kernel_rfl) #[.agg #[.int .i64 s.K,.int .i64 s.M,.int .i64 s.size],.agg #[.int .i64 x.id,.int .i64 x.len,.int .i64 x.gen,.slice A3 n3 c3]] (by simp[e12,e16];try first|done|rfl|exact⟨rfl,rfl⟩) (hcl) ?_;rintro e w7 ⟨rfl,gy⟩;exact⟨_,rfl,hK _ _ (hW.snoc gy (fun j v h=>h) (fun _=>rfl))⟩
      ·(refine Bi.rd rfl rfl (fun ρ us w6 ho ht hc hl hsrc hW=>?_);have e17:=zv (ht 17 (by decide)) ((us.lookup 5).getD undef) rfl;rw[hW.at_ (hsrc 5 (by exact(List.mem_singleton.2 rfl:(5:Nat)∈[5]))) rfl] at e17;clear ht ho;simp only[execOp,e17];go_simp;try rfl)
      ·(refine .r1 (.int .i64 (k:Int)) fun _ _ _ vA _ _ _ _=>?_;simp only[execOp,vA];go_simp;first|rfl|exact congrArg Value.bool (decide_eq_true (by omega))|exact congrArg Value.bool (decide_eq_false (by omega))|(simp;done)|(simp;omega))
      ·(refine .r1 (.int .i64 (k:Int)) fun _ _ _ rh _ _ _ _=>?_;simp only[execOp,rh];go_simp;exact(congrArg (Value.int .i64) (Go.IntWalk.i64_in _ (by omega))).trans (congrArg (Value.int .i64) (by omega)))
      ·(refine .r2 ((.slice (some ⟨b,o,none⟩) n c)) (.int .i64 ((k - 1:Nat):Int)) fun _ _ _ e23 pZ _ _ _ _=>?_;simp only[execOp,e23,pZ];go_simp;try rfl)
      ·(refine .r1 (.pointer (some ⟨b,o+(k - 1)* 4,none⟩)) fun _ _ w6 vB _ _ _ hW=>?_;obtain⟨k0,k1,k2,z0,z1,z2,z3,zp⟩:=vV.out w6 (zu HB hW.1);simp only[execOp,vB];go_simp;try rfl)
      ·(refine .r2 ((.slice (some ⟨b,o,none⟩) n c)) (.int .i64 (k:Int)) fun _ _ _ pN rU _ _ _ _=>?_;simp only[execOp,pN,rU];go_simp;try rfl)
      ·(refine .r2 (.int .i64 xp) (.int .i64 x.id) fun _ _ _ ur uo _ _ _ _=>?_;simp only[execOp,ur,uo];go_simp;first|rfl|exact congrArg Value.bool (decide_eq_true (by omega))|exact congrArg Value.bool (decide_eq_false (by omega))|(simp;done)|(simp;omega))
      intro us w9 hmem hW;simp only[qb,BC,BD,BF,BG,Act.put,Bz,BA,BB];generalize gU:qs _ _ us=sv;have hq:sv 36=.bool true:=(by rw[←gU];rfl);rw[hq];have HB:=zh (zu HB hW.1);clear gU hq hmem hW;clear vV vE;go_wp2
      go_ret
      exact⟨by rw[HF.out];rfl,mD.out _ HB.out⟩
     have HF:=zh (uz.out (by rw[mU.out,hok,decide_eq_true rR,decide_eq_false hle];rfl));clear hok uz;go_wp2_with fail
     refine rF 39 rfl [12,13,14,15,16,17,18,19,20,21,22,23,24,25,26,27,28,29,30,31,32,33,34,35,36] [5]
       [kp 12 (.agg #[.int .i64 s.K,.int .i64 s.M,.int .i64 s.size]),kp 13 ((.slice (some ⟨b,o,none⟩) n c)),ki 14 k,kq 15 (b) (o+k* 4),kp 16 (.agg #[.int .i64 x.id,.int .i64 x.len,.int .i64 x.gen,.slice A3 n3 c3]),(18,[5],fun _=>.bool false),(19,[5],fun _=>.bool false),ki 20 k,kt 21,kt 22,kp 23 ((.slice (some ⟨b,o,none⟩) n c)),ki 24 k,kp 25 (.int .i64 ((k - 1:Nat):Int)),kp 26 (pt (b) (o+(k - 1)* 4)),kp 27 (pt (b) (o+(k - 1)* 4)),kp 28 (.int .i64 xp),kp 29 ((.slice (some ⟨b,o,none⟩) n c)),ki 30 k,kq 31 (b) (o+k* 4),kq 32 (b) (o+k* 4),kp 33 (.int .i64 x.id),kf 34,kf 35,kf 36]
       [] [] (Ca wr (fun i v _=>i=5→v=.bool true)) .init ⟨?_,.a,.a,?_,?_,?_,?_,.a,.a,?_,.a,.a,.a,?_,?_,.a,?_,.a,.a,?_,.a,.l (a:=⟨b,o+k* 4,none⟩) fun us w6 hW _=>(by obtain⟨k0,k1,k2,z0,z1,z2,z3,zp⟩:=vV.out w6 (zu HB hW.1);assumption),?_,.a,.a,trivial⟩ ?_
     ·(refine .r1 ((.pointer (some ⟨w.heap.size,0,none⟩))) fun _ _ w6 e2 _ _ _ hW=>?_;obtain⟨k0,k1,k2,z0,z1,z2,z3,zp⟩:=vV.out w6 (zu HB hW.1);simp only[execOp,e2];go_simp;try rfl)
     ·(refine .r2 ((.slice (some ⟨b,o,none⟩) n c)) (.int .i64 (k:Int)) fun _ _ _ H7 uq _ _ _ _=>?_;simp only[execOp,H7,uq];go_simp;try rfl)
     ·(refine .r1 (.pointer (some ⟨b,o+k* 4,none⟩)) fun _ _ w6 Mc _ _ _ hW=>?_;obtain⟨k0,k1,k2,z0,z1,z2,z3,zp⟩:=vV.out w6 (zu HB hW.1);simp only[execOp,Mc];go_simp;try rfl)
     ·refine Bi.wr rfl (fun Z us w6 ho ht hni hlim gf hW K hK=>?_);have e12:=zv (ht 12 (by decide)) (.agg #[.int .i64 s.K,.int .i64 s.M,.int .i64 s.size]) rfl;have e16:=zv (ht 16 (by decide)) (.agg #[.int .i64 x.id,.int .i64 x.len,.int .i64 x.gen,.slice A3 n3 c3]) rfl;have hcl:=jf (w:=w6) (s:=s) (x:=x) (vE.out w6 (zu HB hW.1));rw[nu.out] at hcl;refine qh rfl 83 #[.tmp 12,.tmp 16] #[23,86] rfl Tryz.func83 (by kernel_rfl) (by kernel_rfl) #[.agg #[.int .i64 s.K,.int .i64 s.M,.int .i64 s.size],.agg #[.int .i64 x.id,.int .i64 x.len,.int .i64 x.gen,.slice A3 n3 c3]] (by simp[e12,e16];try first|done|rfl|exact⟨rfl,rfl⟩) (hcl) ?_;rintro e w7 ⟨rfl,gy⟩;exact⟨_,rfl,hK _ _ (hW.snoc gy (fun j v h=>h) (fun _=>rfl))⟩
     ·(refine Bi.rd rfl rfl (fun ρ us w6 ho ht hc hl hsrc hW=>?_);have e17:=zv (ht 17 (by decide)) ((us.lookup 5).getD undef) rfl;rw[hW.at_ (hsrc 5 (by exact(List.mem_singleton.2 rfl:(5:Nat)∈[5]))) rfl] at e17;clear ht ho;simp only[execOp,e17];go_simp;try rfl)
     ·(refine .r1 (.int .i64 (k:Int)) fun _ _ _ vA _ _ _ _=>?_;simp only[execOp,vA];go_simp;first|rfl|exact congrArg Value.bool (decide_eq_true (by omega))|exact congrArg Value.bool (decide_eq_false (by omega))|(simp;done)|(simp;omega))
     ·(refine .r1 (.int .i64 (k:Int)) fun _ _ _ rh _ _ _ _=>?_;simp only[execOp,rh];go_simp;exact(congrArg (Value.int .i64) (Go.IntWalk.i64_in _ (by omega))).trans (congrArg (Value.int .i64) (by omega)))
     ·(refine .r2 ((.slice (some ⟨b,o,none⟩) n c)) (.int .i64 ((k - 1:Nat):Int)) fun _ _ _ e23 pZ _ _ _ _=>?_;simp only[execOp,e23,pZ];go_simp;try rfl)
     ·(refine .r1 (.pointer (some ⟨b,o+(k - 1)* 4,none⟩)) fun _ _ w6 vB _ _ _ hW=>?_;obtain⟨k0,k1,k2,z0,z1,z2,z3,zp⟩:=vV.out w6 (zu HB hW.1);simp only[execOp,vB];go_simp;try rfl)
     ·(refine .r2 ((.slice (some ⟨b,o,none⟩) n c)) (.int .i64 (k:Int)) fun _ _ _ pN rU _ _ _ _=>?_;simp only[execOp,pN,rU];go_simp;try rfl)
     ·(refine .r2 (.int .i64 xp) (.int .i64 x.id) fun _ _ _ ur uo _ _ _ _=>?_;simp only[execOp,ur,uo];go_simp;first|rfl|exact congrArg Value.bool (decide_eq_true (by omega))|exact congrArg Value.bool (decide_eq_false (by omega))|(simp;done)|(simp;omega))
     intro us w9 hmem hW;simp only[qb,BC,BD,BF,BG,Act.put,Bz,BA,BB];generalize gU:qs _ _ us=sv;have hq:sv 36=.bool false:=(by rw[←gU];rfl);rw[hq];have HB:=zh (zu HB hW.1);clear gU hq hmem hW;clear vV vE;go_wp2
     exact⟨⟨k+1,by omega,by go_num,HB,HF⟩,by simp[intOf];omega⟩
    have HF:=zh (uz.out (by rw[mU.out,hok,decide_eq_false rR];rfl));clear hok uz;go_wp2_with fail
    refine rF 39 rfl [12,13,14,15,16,17,18,19,20,21,22,23,24,25,26,27,28,29,30,31,32,33,34,35,36] [5]
      [kp 12 (.agg #[.int .i64 s.K,.int .i64 s.M,.int .i64 s.size]),kp 13 ((.slice (some ⟨b,o,none⟩) n c)),ki 14 k,kq 15 (b) (o+k* 4),kp 16 (.agg #[.int .i64 x.id,.int .i64 x.len,.int .i64 x.gen,.slice A3 n3 c3]),(18,[5],fun _=>.bool false),(19,[5],fun _=>.bool false),ki 20 k,kf 21,kf 22,kf 35,kf 36]
      [] [] (Ca wr (fun i v _=>i=5→v=.bool true)) .init ⟨?_,.a,.a,?_,?_,?_,?_,.a,.a,?_,.a,.b,.b,.b,.b,.b,.b,.b,.b,.b,.b,.b,.b,.a,.a,trivial⟩ ?_
    ·(refine .r1 ((.pointer (some ⟨w.heap.size,0,none⟩))) fun _ _ w6 e2 _ _ _ hW=>?_;obtain⟨k0,k1,k2,z0,z1,z2,z3,zp⟩:=vV.out w6 (zu HB hW.1);simp only[execOp,e2];go_simp;try rfl)
    ·(refine .r2 ((.slice (some ⟨b,o,none⟩) n c)) (.int .i64 (k:Int)) fun _ _ _ H7 uq _ _ _ _=>?_;simp only[execOp,H7,uq];go_simp;try rfl)
    ·(refine .r1 (.pointer (some ⟨b,o+k* 4,none⟩)) fun _ _ w6 Mc _ _ _ hW=>?_;obtain⟨k0,k1,k2,z0,z1,z2,z3,zp⟩:=vV.out w6 (zu HB hW.1);simp only[execOp,Mc];go_simp;try rfl)
    ·refine Bi.wr rfl (fun Z us w6 ho ht hni hlim gf hW K hK=>?_);have e12:=zv (ht 12 (by decide)) (.agg #[.int .i64 s.K,.int .i64 s.M,.int .i64 s.size]) rfl;have e16:=zv (ht 16 (by decide)) (.agg #[.int .i64 x.id,.int .i64 x.len,.int .i64 x.gen,.slice A3 n3 c3]) rfl;have hcl:=jf (w:=w6) (s:=s) (x:=x) (vE.out w6 (zu HB hW.1));rw[nu.out] at hcl;refine qh rfl 83 #[.tmp 12,.tmp 16] #[23,86] rfl Tryz.func83 (by kernel_rfl) (by kernel_rfl) #[.agg #[.int .i64 s.K,.int .i64 s.M,.int .i64 s.size],.agg #[.int .i64 x.id,.int .i64 x.len,.int .i64 x.gen,.slice A3 n3 c3]] (by simp[e12,e16];try first|done|rfl|exact⟨rfl,rfl⟩) (hcl) ?_;rintro e w7 ⟨rfl,gy⟩;exact⟨_,rfl,hK _ _ (hW.snoc gy (fun j v h=>h) (fun _=>rfl))⟩
    ·(refine Bi.rd rfl rfl (fun ρ us w6 ho ht hc hl hsrc hW=>?_);have e17:=zv (ht 17 (by decide)) ((us.lookup 5).getD undef) rfl;rw[hW.at_ (hsrc 5 (by exact(List.mem_singleton.2 rfl:(5:Nat)∈[5]))) rfl] at e17;clear ht ho;simp only[execOp,e17];go_simp;try rfl)
    ·(refine .r1 (.int .i64 (k:Int)) fun _ _ _ vA _ _ _ _=>?_;simp only[execOp,vA];go_simp;first|rfl|exact congrArg Value.bool (decide_eq_true (by omega))|exact congrArg Value.bool (decide_eq_false (by omega))|(simp;done)|(simp;omega))
    intro us w9 hmem hW;simp only[qb,BC,BD,BF,BG,Act.put,Bz,BA,BB];generalize gU:qs _ _ us=sv;have hq:sv 36=.bool false:=(by rw[←gU];rfl);rw[hq];have HB:=zh (zu HB hW.1);clear gU hq hmem hW;clear vV vE;go_wp2
    exact⟨⟨k+1,by omega,by go_num,HB,HF⟩,by simp[intOf];omega⟩
  have HF:Hid (qY s l=true):=zh (kj (fun j hj=>he.out j (by have:=HL.out;omega)));obtain⟨k0,k1,k2⟩:=ROW.out wr HB.out;go_wp2_with fail
  refine(Ce (s:=s)).mono ?_;clear k0 k1 k2;rintro r w9 ⟨rfl,mM⟩;have gD:=zt HB mM;clear mM;go_wp2
  go_ret
  exact⟨by rw[HF.out];rfl,mD.out _ gD.out⟩
def qD (s:Shape) (b:Book):Bool:=qo s&&(decide (0≤b.next∧b.next≤1073741824)&&(qF s b.next b.Ba&&(qX s b.Ba b.things&&zW b.tags)))
structure Ea (b:Book):Prop where
 st:b.Ba.length≤4000
 sl:(qg b.Ba b.Ba.length).length≤1000000
 nm:(qp b.things b.things.length).length≤1000000
theorem jn {s:Shape}{nx:Int}{l:List Bb}(h:qF s nx l=true):∀i j,i<j→j<l.length→(l.getD i default).id<(l.getD j default).id:=by
 unfold qF at h;rw[Bool.and_eq_true] at h;have h1:=List.all_eq_true.1 h.1
 have step:∀j,j+1<l.length→(l.getD j default).id<(l.getD (j+1) default).id:=fun j hj=>by
  have:=h1 (j+1) (List.mem_range.2 hj);unfold qS at this;simp only[Bool.and_eq_true,Bool.or_eq_true,decide_eq_true_eq] at this;obtain⟨_,_,h|h⟩:=this
  ·omega
  exact h
 intro i j hij
 induction j with
 |zero=>omega
 |succ j ih=>
  intro hj;have h2:=step j hj;rcases Nat.lt_or_ge i j with h3|h3
  ·have:=ih h3 (by omega);omega
  obtain rfl:i=j:=by omega
  exact h2
theorem jR {s:Shape}{nx:Int}{l:List Bb}(h:qF s nx l=true):∀k,k<l.length→zg s (l.getD k default)=true∧(l.getD k default).id<nx:=by
 unfold qF at h;rw[Bool.and_eq_true] at h;intro k hk;have:=(List.all_eq_true.1 h.1) k (List.mem_range.2 hk);unfold qS at this;simp only[Bool.and_eq_true,decide_eq_true_eq] at this;exact⟨this.1,this.2.1⟩
theorem kL {s:Shape}{x:Bb}(h:zg s x=true):1≤x.len∧x.len≤s.K* s.size∧(x.place.length:Int)=s.K+s.M∧0≤x.id∧x.id≤1073741824∧0≤x.gen∧x.gen≤1073741824∧qo s=true:=by
 unfold zg qW at h;simp only[Bool.and_eq_true,decide_eq_true_eq] at h;obtain⟨⟨⟨⟨⟨⟨h1,h2⟩,h3⟩,h4⟩,h5⟩,h6⟩,_⟩:=h;exact⟨h4,h5,h6,h2.1,h2.2,h3.1,h3.2,h1⟩
def Dc (l:List Bb) (id:Int):Int:=match l.findIdx? (fun y=>decide (y.id=id)) with
 |some i=>(i:Int)
 |none=>-1
theorem XA {l:List Bb}{id:Int}(h:∀j,j<l.length→(l.getD j default).id≠id):Dc l id=-1:=by
 unfold Dc
 have:l.findIdx? (fun y=>decide (y.id=id))=none:=by
  rw[List.findIdx?_eq_none_iff];intro y hy;obtain⟨j,hj,rfl⟩:=List.getElem_of_mem hy;have:=h j hj;rw[List.getD_eq_getElem?_getD,List.getElem?_eq_getElem hj] at this;simpa using this
 rw[this]
theorem ya {l:List Bb}{id:Int}{i:Nat}(hi:i<l.length) (h:(l.getD i default).id=id) (h1:∀j,j<i→(l.getD j default).id≠id):Dc l id=(i:Int):=by
 unfold Dc
 have:l.findIdx? (fun y=>decide (y.id=id))=some i:=by
  rw[List.findIdx?_eq_some_iff_getElem];rw[List.getD_eq_getElem?_getD,List.getElem?_eq_getElem hi] at h;refine⟨hi,by simpa using h,fun j hj=>?_⟩;have:=h1 j hj;rw[List.getD_eq_getElem?_getD,List.getElem?_eq_getElem (by omega)] at this;simpa using this
 rw[this]
theorem jY (l:List Bb) (id:Int):(Dc l id=-1∧∀j,j<l.length→(l.getD j default).id≠id)∨∃i:Nat,i<l.length∧Dc l id=(i:Int)∧(l.getD i default).id=id∧∀j,j<i→(l.getD j default).id≠id:=by
 by_cases h:∃j,j<l.length∧(l.getD j default).id=id
 ·obtain⟨i,⟨hi,he⟩,hm⟩:=ZX h;refine .inr ⟨i,hi,ya hi he (fun j hj vW=>?_),he,fun j hj vW=>?_⟩
  ·have:=hm j ⟨by omega,vW⟩;omega
  have:=hm j ⟨by omega,vW⟩;omega
 exact .inl ⟨XA (fun j hj he=>h ⟨j,hj,he⟩),fun j hj he=>h ⟨j,hj,he⟩⟩
theorem Ji {l:List Bb}{id:Int}{i:Nat}(hi:i<l.length) (h:Dc l id=(i:Int)):xP l id=some (l.getD i default):=by
 rcases jY l id with ⟨h1,_⟩|⟨j,hj,h1,h2,h3⟩
 ·omega
 obtain rfl:j=i:=by omega
 unfold xP;rw[List.find?_eq_some_iff_getElem];have e:∀j (hj:j<l.length),l.getD j default=l[j]:=fun j hj=>by rw[List.getD_eq_getElem?_getD,List.getElem?_eq_getElem hj];rfl
 refine⟨by simpa using h2,j,hj,(e j hj).symm,fun k hk=>?_⟩;have:=h3 k hk;rw[e k (by omega)] at this;simpa using this
theorem Qx {l:List Bb}{id:Int}(h:Dc l id<0):xP l id=none:=by
 rcases jY l id with ⟨_,h1⟩|⟨j,hj,h1,_⟩
 ·unfold xP;rw[List.find?_eq_none];intro y hy;obtain⟨j,hj,rfl⟩:=List.getElem_of_mem hy;have:=h1 j hj;rw[List.getD_eq_getElem?_getD,List.getElem?_eq_getElem hj] at this;simpa using this
 omega
def xX (l:List Bb) (N:List Int):List Bool:=l.map (fun y=>decide (y.id∈N))
theorem Kk {l:List Bb}{N:List Int}{i:Nat}(hi:i<l.length):(xX l N).getD i false=decide ((l.getD i default).id∈N):=by
 unfold xX;rw[List.getD_eq_getElem?_getD,List.getElem?_map,List.getD_eq_getElem?_getD,List.getElem?_eq_getElem hi];rfl
theorem Jj {l:List Bb}{N:List Int}{i:Nat}(hi:i<l.length) (hs:∀i j,i<j→j<l.length→(l.getD i default).id<(l.getD j default).id):(xX l N).set i true=xX l (N++[(l.getD i default).id]):=by
 unfold xX;refine List.ext_getElem? (fun k=>?_);have e:∀j (hj:j<l.length),l.getD j default=l[j]:=fun j hj=>by rw[List.getD_eq_getElem?_getD,List.getElem?_eq_getElem hj];rfl
 by_cases hk:k<l.length
 ·by_cases uh:k=i
  ·subst uh;rw[List.getElem?_set_self (by simpa using hk),List.getElem?_map,List.getElem?_eq_getElem hk];refine congrArg some (decide_eq_true (List.mem_append_right _ ?_)).symm;rw[e k hk];exact List.mem_singleton.2 rfl
  rw[List.getElem?_set_ne (Ne.symm uh),List.getElem?_map,List.getElem?_map,List.getElem?_eq_getElem hk]
  have hne:l[k].id≠(l.getD i default).id:=by
   rw[←e k hk];rcases Nat.lt_or_ge k i with h|h
   ·have:=hs k i h hi;omega
   have:=hs i k (by omega) hk;omega
  simp only[Option.map_some,List.mem_append,List.mem_singleton,hne,or_false]
 rw[List.getElem?_eq_none (by simp;omega),List.getElem?_eq_none (by simp;omega)]
def ji (W len:Int) (k:Nat):Int:=max 0 (len - (k:Int)* W)
theorem QX {W len:Int}(h:0≤len):ji W len 0=len:=by unfold ji;simp;omega
theorem Jk {W len:Int}(hW:1≤W) (k:Nat):ji W len (k+1)=ji W len k - min (ji W len k) W:=by
 unfold ji;have:((k+1:Nat):Int)* W=(k:Int)* W+W:=by rw[show((k+1:Nat):Int)=(k:Int)+1 from rfl,Int.add_mul,Int.one_mul]
 rw[this];generalize (k:Int)* W=q;omega
theorem Jl {s:Shape}{len:Int}(hW:1≤s.K* s.size) (h:0≤len):ji (s.K* s.size) len (zK s len)=0:=by
 unfold ji zK;generalize s.K* s.size=W at *;have h1:0≤(len+W - 1) / W:=Int.ediv_nonneg (by omega) (by omega);rw[Int.toNat_of_nonneg h1];have h2:=Int.emod_lt_of_pos (len+W - 1) (by omega:0<W);have h3:=Int.emod_add_mul_ediv (len+W - 1) W;rw[Int.mul_comm] at h3;omega
theorem QY {W:Int}{l:List Bb}{xs:List Int}{k:Nat}{left:Int}(hk:k<xs.length):zA W l (xs.drop k) left=match xP l (xs.getD k 0) with
  |none=>false
  |some y=>if y.len=min left W then zA W l (xs.drop (k+1)) (left - y.len) else false:=by
 have:xs.drop k=xs.getD k 0::xs.drop (k+1):=by
  rw[List.drop_eq_getElem_cons hk,List.getD_eq_getElem?_getD,List.getElem?_eq_getElem hk];rfl
 rw[this];rfl
def qL (s:Shape) (xs:List Entry) (k:Nat):Bool:=
 decide ((xs.getD k default).digest.size=32)&&((decide (k=0)||ql (xs.getD (k - 1) default).digest (xs.getD k default).digest)&&(decide (0≤(xs.getD k default).len)&&(decide ((xs.getD k default).len≤2000)&&decide ((xs.getD k default).list.length=zK s (xs.getD k default).len))))
theorem jH {s:Shape}{l:List Bb}{xs:List Entry}{k:Nat}:qH s l xs k=(qL s xs k&&zA (s.K* s.size) l (xs.getD k default).list (xs.getD k default).len):=by
 unfold qH qL;simp only[Bool.and_assoc]
theorem Qm {s:Shape}{nx:Int}{l:List Bb}{k:Nat}(h:qY s l=true) (hk:k<l.length):qS s nx l k=decide ((l.getD k default).id<nx):=by
 have h1:=List.all_eq_true.1 h k (List.mem_range.2 hk);unfold zN at h1;unfold qS;rw[Bool.and_eq_true] at h1;obtain⟨h1,h2⟩:=h1;rw[h1];rcases Nat.eq_zero_or_pos k with rfl|h0
 ·simp
 have h3:decide (k=0)=false:=decide_eq_false (by omega);rw[h3]
 have h4:(l.getD (k - 1) default).id<(l.getD k default).id:=by
  simp[h0] at h2;exact h2
 rw[decide_eq_true h4];simp
theorem ZZ {s:Shape}{nx:Int}{l:List Bb}(h:(qY s l&&qo s)=false):(qo s&&qF s nx l)=false:=by
 cases hs:qo s with
 |false=>rfl
 |true=>
  rw[hs,Bool.and_true] at h
  cases hq:qF s nx l with
  |false=>rfl
  |true=>
   have hall:=List.all_eq_true.1 (show(List.range l.length).all (qS s nx l)=true from by unfold qF at hq;rw[Bool.and_eq_true] at hq;exact hq.1)
   have:qY s l=true:=kj (fun j hj=>by
    have h2:=hall j (List.mem_range.2 hj);unfold qS at h2;unfold zN;simp only[Bool.and_eq_true,Bool.or_eq_true,decide_eq_true_eq] at h2;obtain⟨h3,_,h4⟩:=h2;rw[h3,Bool.true_and];rcases Nat.eq_zero_or_pos j with rfl|h0
    ·rfl
    have h5:(l.getD (j - 1) default).id<(l.getD j default).id:=(by omega);rw[decide_eq_false (by omega:¬(l.getD j default).id≤(l.getD (j - 1) default).id)]
    simp)
   rw[this] at h;cases h
structure Bl (w:World) (S:Nat→Prop) (tg tg0 tg1 tg2:Bool) (A0:Option Addr) (n0 c0:Nat) (A1:Option Addr) (n1 c1:Nat) (A2:Option Addr) (n2 c2:Nat) (b:Book):Prop where
 st:Sl tg 86 (qc tg0) w S A0 n0 c0 b.Ba
 th:Sl tg 90 (qj tg1) w S A1 n1 c1 b.things
 ta:Sl tg2 94 Bu w S A2 n2 c2 b.tags
 nx:Bg b.next
section
variable {w w':World}{S S':Nat→Prop}{tg tg0 tg1 tg2:Bool}{A0 A1 A2:Option Addr}{n0 c0 n1 c1 n2 c2:Nat}{b:Book}
theorem Bl.all (h:Bl w S tg tg0 tg1 tg2 A0 n0 c0 A1 n1 c1 A2 n2 c2 b) (hb:Below w.heap.size w w'):Bl w' S tg tg0 tg1 tg2 A0 n0 c0 A1 n1 c1 A2 n2 c2 b:=⟨h.st.all hb,h.th.all hb,h.ta.all hb,h.nx⟩
theorem Bl.keep (h:Bl w S tg tg0 tg1 tg2 A0 n0 c0 A1 n1 c1 A2 n2 c2 b) (k:Be S w w'):Bl w' S tg tg0 tg1 tg2 A0 n0 c0 A1 n1 c1 A2 n2 c2 b:=⟨h.st.keep k,h.th.keep k,h.ta.keep k,h.nx⟩
theorem Bl.mono (h:Bl w S tg tg0 tg1 tg2 A0 n0 c0 A1 n1 c1 A2 n2 c2 b) (hS:∀k,S k→k<w.heap.size→S' k):Bl w S' tg tg0 tg1 tg2 A0 n0 c0 A1 n1 c1 A2 n2 c2 b:=⟨h.st.mono hS,h.th.mono hS,h.ta.mono hS,h.nx⟩
end
theorem JU {tg tg0 tg1 tg2:Bool}{S:Nat→Prop}{w:World}{A0 A1 A2:Option Addr}{n0 c0 n1 c1 n2 c2:Nat}{s:Shape}{b:Book}(hsi:Bg s.K∧Bg s.M∧Bg s.size) (hf:Ea b) (h:Bl w S tg tg0 tg1 tg2 A0 n0 c0 A1 n1 c1 A2 n2 c2 b):
  Calls Tryz.prog 47 #[.agg #[.int .i64 s.K,.int .i64 s.M,.int .i64 s.size],.agg #[.slice A0 n0 c0,.slice A1 n1 c1,.slice A2 n2 c2,.int .i64 b.next]] w (Bh (.bool (qD s b)) w):=by
 have GK:Hid (qD s b=(qo s&&(decide (0≤b.next∧b.next≤1073741824)&&(qF s b.next b.Ba&&(qX s b.Ba b.things&&zW b.tags))))):=zh rfl;have hn0:n0≤4000:=by have:=hf.st;have:=h.st.len;omega
 have HSS:=zh (fun W (hW:Below w.heap.size w W)=>Zu (w:=W) (A1:=A1) (A2:=A2) (n1:=n1) (c1:=c1) (n2:=n2) (c2:=c2) (nx:=b.next) hsi (h.st.all hW) hf.sl);have HTT:=zh (fun W (hW:Below w.heap.size w W) (hsh:qo s=true) (hs:qF s b.next b.Ba=true)=>KZ (w:=W) (A2:=A2) (n2:=n2) (c2:=c2) (nx:=b.next) hsh (h.st.all hW) (by omega) (fun i j h1 h2=>jn hs i j h1 (by have:=h.st.len;omega)) (h.th.all hW) hf.nm);have HGG:=zh (fun W (hW:Below w.heap.size w W)=>FC (w:=W) (h.ta.all hW));generalize qD s b=R at *;clear h hf hsi;have hal:Below w.heap.size w ((w.alloc (.cells #[.int .i64 s.K,.int .i64 s.M,.int .i64 s.size] 23)).alloc (.cells #[.slice A0 n0 c0,.slice A1 n1 c1,.slice A2 n2 c2,.int .i64 b.next] 28)):=bz
 have mL:((w.alloc (.cells #[.int .i64 s.K,.int .i64 s.M,.int .i64 s.size] 23)).alloc (.cells #[.slice A0 n0 c0,.slice A1 n1 c1,.slice A2 n2 c2,.int .i64 b.next] 28)).heap[w.heap.size]?=some (.cells #[.int .i64 s.K,.int .i64 s.M,.int .i64 s.size] 23 (0,0)):=by
  rw[Below.heap_alloc _ _ _ (by simp;try omega)];have:=heap_alloc_new w (.cells #[.int .i64 s.K,.int .i64 s.M,.int .i64 s.size] 23);simpa only[World.size_alloc] using this
 have hr1:((w.alloc (.cells #[.int .i64 s.K,.int .i64 s.M,.int .i64 s.size] 23)).alloc (.cells #[.slice A0 n0 c0,.slice A1 n1 c1,.slice A2 n2 c2,.int .i64 b.next] 28)).heap[w.heap.size+1]?=some (.cells #[.slice A0 n0 c0,.slice A1 n1 c1,.slice A2 n2 c2,.int .i64 b.next] 28 (0,0)):=by
  have:=heap_alloc_new (w.alloc (.cells #[.int .i64 s.K,.int .i64 s.M,.int .i64 s.size] 23)) (.cells #[.slice A0 n0 c0,.slice A1 n1 c1,.slice A2 n2 c2,.int .i64 b.next] 28);simpa only[World.size_alloc] using this
 have hz:w.heap.size+1<((w.alloc (.cells #[.int .i64 s.K,.int .i64 s.M,.int .i64 s.size] 23)).alloc (.cells #[.slice A0 n0 c0,.slice A1 n1 c1,.slice A2 n2 c2,.int .i64 b.next] 28)).heap.size:=by simp
 go_enter Tryz.func47,Tryz.ntmps47
 go_upto_region 1 with (fail)
 generalize ((w.alloc (.cells #[.int .i64 s.K,.int .i64 s.M,.int .i64 s.size] 23)).alloc (.cells #[.slice A0 n0 c0,.slice A1 n1 c1,.slice A2 n2 c2,.int .i64 b.next] 28))=W0 at *;have gm:=zh (fun V (hV:Below W0.heap.size W0 V)=>hal.trans (hV.mono hal.size));clear hal;have ROW:=zh (fun V (hV:Below W0.heap.size W0 V)=>(show V.heap[w.heap.size]?=some (.cells #[.int .i64 s.K,.int .i64 s.M,.int .i64 s.size] 23 (0,0))∧V.heap[w.heap.size+1]?=some (.cells #[.slice A0 n0 c0,.slice A1 n1 c1,.slice A2 n2 c2,.int .i64 b.next] 28 (0,0)) from⟨(hV.block _ (by omega)).trans mL,(hV.block _ (by omega)).trans hr1⟩));clear mL hr1;obtain⟨r0,r1⟩:=ROW.out W0 (Below.refl _ _);obtain⟨gW,j6,ma⟩:=xQ r0;clear r0 r1;go_wp2_with fail
 refine(CO (s:=s)).mono ?_;rintro e w1 ⟨rfl,hb1⟩;have gG:=zh hb1;clear hb1 gW j6 ma;generalize hq:qo s=q at *;have HQ:=zh hq;clear hq
 cases q with
 |false=>
  have HE:Hid (R=false):=zh GK.out;go_wp2
  go_ret
  exact⟨by rw[HE.out];rfl,gm.out _ gG.out⟩
 |true=>
  obtain⟨r0,r1⟩:=ROW.out w1 gG.out;have vk:=zc 3 r1 (.int .i64 b.next) rfl;obtain⟨gW,j6,ma⟩:=xQ r0;obtain⟨pX,ut,ui,-⟩:=qN r1;clear r0 r1;by_cases hx1:0≤b.next
  ·by_cases hx2:b.next≤1073741824
   ·have M3:=zh (GK.out.trans (by rw[decide_eq_true (⟨hx1,hx2⟩:0≤b.next∧b.next≤1073741824)];rfl:_=(qF s b.next b.Ba&&(qX s b.Ba b.things&&zW b.tags))));clear GK;go_wp2_with fail
    refine(HSS.out _ (gm.out _ gG.out)).mono ?_;rintro e w2 ⟨rfl,hb2⟩;have gM:=zt gG hb2;clear hb2 gG HSS;clear vk gW j6 ma pX ut ui;generalize hq2:qF s b.next b.Ba=q2 at *;have nB:=zh hq2;clear hq2
    cases q2 with
    |false=>
     have HE:Hid (R=false):=zh M3.out;go_wp2
     go_ret
     exact⟨by rw[HE.out];rfl,gm.out _ gM.out⟩
    |true=>
     obtain⟨r0,r1⟩:=ROW.out w2 gM.out;obtain⟨gW,j6,ma⟩:=xQ r0;obtain⟨pX,ut,ui,vk⟩:=zC r1;clear r0 r1;go_wp2_with fail
     refine(HTT.out _ (gm.out _ gM.out) (by trivial) (by trivial)).mono ?_;rintro e w3 ⟨rfl,hb3⟩;have mO:=zt gM hb3;clear hb3 gM HTT;clear vk gW j6 ma pX ut ui;generalize hq3:qX s b.Ba b.things=q3 at *;have nH:=zh hq3;clear hq3
     cases q3 with
     |false=>
      have HE:Hid (R=false):=zh M3.out;go_wp2
      go_ret
      exact⟨by rw[HE.out];rfl,gm.out _ mO.out⟩
     |true=>
      obtain⟨r0,r1⟩:=ROW.out w3 mO.out;have ui:=zc 2 r1 (.slice A2 n2 c2) rfl;clear r0 r1;go_wp2_with fail
      refine(HGG.out _ (gm.out _ mO.out)).mono ?_;rintro e w4 ⟨rfl,hb4⟩;have mf:=zt mO hb4;clear hb4 mO HGG ui;generalize hq4:zW b.tags=q4 at *;have HQ4:=zh hq4;clear hq4;have HE:Hid (R=q4):=zh M3.out;go_wp2
      go_ret
      exact⟨by rw[HE.out];rfl,gm.out _ mf.out⟩
   have HE:Hid (R=false):=zh (GK.out.trans (by rw[decide_eq_false (fun h=>hx2 h.2)];rfl));clear gW j6 ma pX ut ui;go_wp2
   go_ret
   exact⟨by rw[HE.out];rfl,gm.out _ gG.out⟩
  have HE:Hid (R=false):=zh (GK.out.trans (by rw[decide_eq_false (fun h=>hx1 h.1)];rfl));clear gW j6 ma pX ut ui;go_wp2
  go_ret
  exact⟨by rw[HE.out];rfl,gm.out _ gG.out⟩
end Go.Proofs.YtipecejghioicaaGreat
namespace Go.Silo
open Go Go.RowKit
inductive EB (V:World) (i:Nat) (V':World):List (Nat×Value)→World→Prop
 |pre:EB V i V' [] V
 |post {x:Value}:EB V i V' [(i,x)] V'
theorem EB.early {V V' W:World}{i:Nat}{us:List (Nat×Value)}(h:EB V i V' us W) (hn:i∉us.map Prod.fst):us=[]∧W=V:=by
 cases h with
 |pre=>exact⟨rfl,rfl⟩
 |post=>exact absurd (by simp) hn
theorem EB.done {V V' W:World}{i:Nat}{us:List (Nat×Value)}(h:EB V i V' us W) (hm:i∈us.map Prod.fst):W=V':=by
 cases h with
 |pre=>simp at hm
 |post=>rfl
end Go.Silo
namespace Go.Proofs.YtipecejghioicaaGreat
open Go.RowKit Go.Silo
theorem At_c {tg tg1:Bool}{T:TypeId}{S:Nat→Prop}{w:World}{A:Option Addr}{n c:Nat}{l:List Bb}{x:Int}(h:Sl tg T (qc tg1) w S A n c l):
  Calls Tryz.prog 51 #[.slice A n c,.int .i64 x] w (Bh (.int .i64 (Dc l x)) w):=by
 have HL:=zh h.len;have hcap:n≤9223372036854775807:=Nat.le_trans h.le h.cap
 go_enter Tryz.func51,Tryz.ntmps51
 go_wp2_with fail
 go_loopw [5] (fun i wr=>∃k:Nat,k≤n∧i=.int .i64 k∧wr=w∧Hid (∀j,j<k→(l.getD j default).id≠x)) (fun i _=>n - (intOf i).toNat)
 case atStart=>exact⟨0,Nat.zero_le _,rfl,by trivial,zh (fun j hj=>by omega)⟩
 case round=>
  obtain⟨k,hk,rfl,rfl,he⟩:=hrel;by_cases hlt:k<n
  ·obtain⟨b,off,A3,n3,c3,rfl,_,hbl,i0,i1,i2,_,z0,z1,z2,z3,_⟩:=h.Br hlt;generalize hp:(l.getD k default).id=p at *;have HP:=zh hp;clear hp;clear z1 z2 z3;by_cases hd:p=x
   ·have HF:Hid (Dc l x=k):=zh (ya (by have:=HL.out;omega) (HP.out.trans hd) he.out);subst hd;go_wp2
    go_ret
    exact⟨by rw[HF.out];rfl,Below.refl _ _⟩
   have HF:Hid (∀j,j<k+1→(l.getD j default).id≠x):=zh (fun j hj=>by
    rcases Nat.lt_or_ge j k with h|h
    ·exact he.out j h
    obtain rfl:j=k:=by omega
    rw[HP.out];exact hd)
   go_wp2
   go_roundw
   case rel=>exact⟨k+1,by omega,by go_num,by trivial,HF⟩
   case measure=>simp[intOf];omega
  obtain rfl:k=n:=by omega
  have HF:Hid (Dc l x=-1):=zh (XA (fun j hj=>he.out j (by have:=HL.out;omega)));go_wp2
  go_ret
  exact⟨by rw[HF.out];rfl,Below.refl _ _⟩
theorem Kl {s:Shape}(h:qo s=true):1≤s.K∧s.K≤8∧0≤s.M∧s.M≤6∧1≤s.size∧s.size≤120:=by
 unfold qo at h;exact of_decide_eq_true h
end Go.Proofs.YtipecejghioicaaGreat
