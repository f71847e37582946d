/- Siloref16: Spread, Stripes. -/
import Derived.Test.YtipecejghioicaaGreatE2s
import Derived.Test.YtipecejghioicaaGreatR2s
import Derived.Test.YtipecejghioicaaGreatT1s
import Derived.Deep.Cut
import Derived.Test.YtipecejghioicaaGreatQ1s
import Derived.Test.YtipecejghioicaaGreatP0s
set_option maxHeartbeats 8000000
set_option maxRecDepth 100000
namespace Go.Proofs.YtipecejghioicaaGreat
open Go.RowKit Go.Silo
end Go.Proofs.YtipecejghioicaaGreat
namespace Go.Proofs.YtipecejghioicaaGreat
open Go.RowKit Go.Silo
def zw (s:Shape) (l:List Bb) (k:Nat):Bool:=qO s (l.getD k default)&&!(decide (0<k)&&decide ((l.getD k default).id≤(l.getD (k - 1) default).id))
def qJ (s:Shape) (l:List Bb):Bool:=(List.range l.length).all (zw s l)
theorem jl {s:Shape}{l:List Bb}(h:∀j,j<l.length→zw s l j=true):qJ s l=true:=List.all_eq_true.2 fun i hi=>h i (List.mem_range.1 hi)
theorem kU {s:Shape}{l:List Bb}{k:Nat}(hk:k<l.length) (h:zw s l k=false):qJ s l=false:=by
 cases hh:qJ s l with
 |false=>rfl
 |true=>have:=List.all_eq_true.1 hh k (List.mem_range.2 hk);rw[h] at this;cases this
theorem QO {tg tg1:Bool}{S:Nat→Prop}{w:World}{A:Option Addr}{n c:Nat}{s:Shape}{l:List Bb}(h:Sl tg 86 (qe tg1) w S A n c l):
  Calls Tryz.prog 49 #[.agg #[.int .i64 s.K,.int .i64 s.M,.int .i64 s.size],.slice A n c] w (Bf (.bool (qJ s l&&qo s)) w):=by
 have HL:=zh h.len;have hcap:n≤9223372036854775807:=Nat.le_trans h.le h.cap;have hal:Below w.heap.size w (w.alloc (.cells #[.int .i64 s.K,.int .i64 s.M,.int .i64 s.size] 23)):=bz;have H:=zh (h.all hal);have hrow:=heap_alloc_new w (.cells #[.int .i64 s.K,.int .i64 s.M,.int .i64 s.size] 23);have hz:w.heap.size<(w.alloc (.cells #[.int .i64 s.K,.int .i64 s.M,.int .i64 s.size] 23)).heap.size:=by simp
 clear h
 go_enter Tryz.func49,Tryz.ntmps49
 go_upto_region 1 with (fail)
 generalize w.alloc (.cells #[.int .i64 s.K,.int .i64 s.M,.int .i64 s.size] 23)=W0 at *
 have ROW:=zh (fun V (hV:Below W0.heap.size W0 V)=>(show V.cell? ⟨w.heap.size,0,none⟩=some (.int .i64 s.K)∧V.cell? ⟨w.heap.size,1,none⟩=some (.int .i64 s.M)∧V.cell? ⟨w.heap.size,2,none⟩=some (.int .i64 s.size) from by
  have r:=(hV.block _ hz).trans hrow
  exact⟨zo 0 r,zo 1 r,zo 2 r⟩))
 have gT:=zh (fun W (hW:Below W0.heap.size W0 W)=>hal.trans (hW.mono (Nat.le_of_lt hz)));clear hrow hal;go_wp2_with fail
 go_loopw [5] (fun i wr=>∃k:Nat,k≤n∧i=.int .i64 k∧Hid (Below W0.heap.size W0 wr)∧Hid (∀j,j<k→zw s l j=true)) (fun i _=>n - (intOf i).toNat)
 case atStart=>exact⟨0,Nat.zero_le _,rfl,zh (Below.refl _ _),zh (fun j hj=>by omega)⟩
 case round=>
  obtain⟨k,hk,rfl,HB,he⟩:=hrel;by_cases hlt:k<n
  ·obtain⟨b,o,A3,n3,c3,rfl,_,hbl,i1,i2,i3,hpl,z0,z1,z2,z3,_⟩:=H.out.Bq hlt;have hat:zw s l k=(qO s (l.getD k default)&&!(decide (0<k)&&decide ((l.getD k default).id≤(l.getD (k - 1) default).id))):=rfl
   have yS:0<k→W0.cell? ⟨b,o+(k - 1)* 4,none⟩=some (.int .i64 (l.getD (k - 1) default).id):=fun h0k=>by
    obtain⟨b',o',_,_,_,e,_,_,_,_,_,_,zz,_⟩:=H.out.Bq (show k - 1<n by omega);injection e with e;injection e with e1 e2;subst e1 e2;exact zz
   have HPREV:=zh yS;clear yS;generalize l.getD k default=x at *;generalize (l.getD (k - 1) default).id=xp at *;have gV:=zh hat;clear hat;have uP:=zh (fun hf:zw s l k=false=>kU (s:=s) (l:=l) (by have:=HL.out;omega) hf)
   have px:=zh (fun(hf:zw s l k=true) j (hj:j<k+1)=>(show zw s l j=true from by
    rcases Nat.lt_or_ge j k with hjk|hjk
    ·exact he.out j hjk
    obtain rfl:j=k:=by omega
    exact hf))
   have uv:=zh (fun V (hV:Below W0.heap.size W0 V)=>hpl.all hV);clear hpl;have rT:=zh (fun w6 (hb:Below W0.heap.size W0 w6)=>And.intro (ROW.out w6 hb).1 (And.intro (ROW.out w6 hb).2.1 (And.intro (ROW.out w6 hb).2.2 (And.intro ((hb.cell (p:=⟨b,o+k* 4,none⟩) hbl).trans z0) (And.intro ((hb.cell (p:=⟨b,o+k* 4+1,none⟩) hbl).trans z1) (And.intro ((hb.cell (p:=⟨b,o+k* 4+2,none⟩) hbl).trans z2) (And.intro ((hb.cell (p:=⟨b,o+k* 4+3,none⟩) hbl).trans z3) (fun h0k:0<k=>(hb.cell (p:=⟨b,o+(k - 1)* 4,none⟩) hbl).trans (HPREV.out h0k)))))))));clear z0 z1 z2 z3 i1 i2 i3 he
   cases hok:qO s x with
   |false=>
    have rq:=zh hok;have HF:Hid ((qJ s l&&qo s)=false):=zh (by rw[uP.out (by rw[gV.out,hok];rfl)];rfl);clear hok px;go_wp2_with fail
    refine zB (by kernel_rfl) (by kernel_rfl) 39 rfl [12,13,14,15,16,17,18,19,20,21,22,23,24,25,26,27,28,29,30,31,32,33,34,35,36] [5] [(17,5)]
     [(12,[],fun _=>.agg #[.int .i64 s.K,.int .i64 s.M,.int .i64 s.size]),(13,[],fun _=>(.slice (some ⟨b,o,none⟩) n c)),(14,[],fun _=>.int .i64 (k:Int)),(15,[],fun _=>.pointer (some ⟨b,o+k* 4,none⟩)),(16,[],fun _=>.agg #[.int .i64 x.id,.int .i64 x.len,.int .i64 x.gen,.slice A3 n3 c3]),(18,[5],fun _=>.bool true),(19,[5],fun _=>.bool true),(20,[],fun _=>undef),(21,[],fun _=>undef),(22,[],fun _=>undef),(23,[],fun _=>undef),(24,[],fun _=>undef),(25,[],fun _=>undef),(26,[],fun _=>undef),(27,[],fun _=>undef),(28,[],fun _=>undef),(29,[],fun _=>undef),(30,[],fun _=>undef),(31,[],fun _=>undef),(32,[],fun _=>undef),(33,[],fun _=>undef),(34,[],fun _=>undef),(35,[],fun _=>undef),(36,[],fun _=>.bool true)]
     [] [] [[],[],[],[13,14],[15],[12,16],[17],[18],[19],[20,19],[21,19],[22],[22],[24,22],[23,25,22],[26,22],[27,22],[22],[22],[29,30,22],[31,22],[32,22],[28,33,22],[22,34,19],[19,35]]
     (BL wr (fun i v _=>i=5→v=.bool false)) (by kernel_rfl) .init ⟨?_,?_,?_,?_,?_,?_,?_,?_,?_,?_,?_,?_,?_,?_,?_,?_,?_,?_,?_,?_,?_,?_,?_,?_,?_,trivial⟩ ?_
    ·(refine Bc.rd rfl rfl (fun ρ us w6 ho ht hc hl hsrc hW=>?_);have e2:=(ho 2 rfl).trans (show _=((.pointer (some ⟨w.heap.size,0,none⟩)):Value) from rfl);obtain⟨k0,k1,k2,z0,z1,z2,z3,zp⟩:=rT.out w6 (zu HB hW.1);clear ht ho;simp only[execOp,e2];go_simp;try rfl)
    ·(refine Bc.rd rfl rfl (fun ρ us w6 ho ht hc hl hsrc hW=>?_);have e1:=(ho 1 rfl).trans (show _=((.slice (some ⟨b,o,none⟩) n c):Value) from rfl);clear ht ho;simp only[execOp,e1];go_simp;try rfl)
    ·(refine Bc.rd rfl rfl (fun ρ us w6 ho ht hc hl hsrc hW=>?_);have e5:=zv (ho 5 rfl) (.int .i64 (k:Int)) rfl;clear ht ho;simp only[execOp,e5];go_simp;try rfl)
    ·(refine Bc.rd rfl rfl (fun ρ us w6 ho ht hc hl hsrc hW=>?_);have yD:=(ht 13 (by decide)).trans (show _=((.slice (some ⟨b,o,none⟩) n c):Value) from rfl);have pj:=zv (ht 14 (by decide)) (.int .i64 (k:Int)) rfl;clear ht ho;simp only[execOp,yD,pj];go_simp;try rfl)
    ·(refine Bc.rd rfl rfl (fun ρ us w6 ho ht hc hl hsrc hW=>?_);have yE:=zv (ht 15 (by decide)) (.pointer (some ⟨b,o+k* 4,none⟩)) rfl;obtain⟨k0,k1,k2,z0,z1,z2,z3,zp⟩:=rT.out w6 (zu HB hW.1);clear ht ho;simp only[execOp,yE];go_simp;try rfl)
    ·refine Bc.wr rfl (fun Z us w6 ho ht hni hlim gb hW K hK=>?_);have e12:=zv (ht 12 (by decide)) (.agg #[.int .i64 s.K,.int .i64 s.M,.int .i64 s.size]) rfl;have e16:=zv (ht 16 (by decide)) (.agg #[.int .i64 x.id,.int .i64 x.len,.int .i64 x.gen,.slice A3 n3 c3]) rfl;have hcl:=xt (w:=w6) (s:=s) (x:=x) (uv.out w6 (zu HB hW.1));rw[rq.out] at hcl;refine qi rfl 83 #[.tmp 12,.tmp 16] #[23,86] rfl Tryz.func83 (by kernel_rfl) (by kernel_rfl) #[.agg #[.int .i64 s.K,.int .i64 s.M,.int .i64 s.size],.agg #[.int .i64 x.id,.int .i64 x.len,.int .i64 x.gen,.slice A3 n3 c3]] (by simp[e12,e16];try first|done|rfl|exact⟨rfl,rfl⟩) (hcl) ?_;rintro e w7 ⟨rfl,gh⟩;exact⟨_,rfl,hK _ _ (hW.snoc gh (fun j v h=>h) (fun _=>rfl))⟩
    ·(refine Bc.rd rfl rfl (fun ρ us w6 ho ht hc hl hsrc hW=>?_);have e17:=zv (ht 17 (by decide)) ((us.lookup 5).getD undef) rfl;rw[hW.at_ (hsrc 5 (by exact(List.mem_singleton.2 rfl:(5:Nat)∈[5]))) rfl] at e17;clear ht ho;simp only[execOp,e17];go_simp;try rfl)
    ·(refine Bc.rd rfl rfl (fun ρ us w6 ho ht hc hl hsrc hW=>?_);have e18:=zv (ht 18 (by decide)) (.bool true) rfl;clear ht ho;simp only[execOp,e18];go_simp;try rfl)
    ·(exact Bc.D8 rfl 7 19 false rfl rfl (by decide) (fun _ _ _=>rfl) (fun _=>rfl))
    ·(exact Bc.D8 rfl 7 19 false rfl rfl (by decide) (fun _ _ _=>rfl) (fun _=>rfl))
    ·(exact Bc.D8 rfl 7 19 false rfl rfl (by decide) (fun _ _ _=>rfl) (fun _=>rfl))
    ·(exact Bc.Dl rfl 10 22 true rfl rfl (by decide) (fun _ _ _=>rfl) (fun _=>rfl))
    ·(exact Bc.Dl rfl 10 22 true rfl rfl (by decide) (fun _ _ _=>rfl) (fun _=>rfl))
    ·(exact Bc.Dl rfl 10 22 true rfl rfl (by decide) (fun _ _ _=>rfl) (fun _=>rfl))
    ·(exact Bc.Dl rfl 10 22 true rfl rfl (by decide) (fun _ _ _=>rfl) (fun _=>rfl))
    ·(exact Bc.Dl rfl 10 22 true rfl rfl (by decide) (fun _ _ _=>rfl) (fun _=>rfl))
    ·(exact Bc.Dl rfl 10 22 true rfl rfl (by decide) (fun _ _ _=>rfl) (fun _=>rfl))
    ·(exact Bc.Dl rfl 10 22 true rfl rfl (by decide) (fun _ _ _=>rfl) (fun _=>rfl))
    ·(exact Bc.Dl rfl 10 22 true rfl rfl (by decide) (fun _ _ _=>rfl) (fun _=>rfl))
    ·(exact Bc.Dl rfl 10 22 true rfl rfl (by decide) (fun _ _ _=>rfl) (fun _=>rfl))
    ·(exact Bc.Dl rfl 10 22 true rfl rfl (by decide) (fun _ _ _=>rfl) (fun _=>rfl))
    ·(exact Bc.Dl rfl 10 22 true rfl rfl (by decide) (fun _ _ _=>rfl) (fun _=>rfl))
    ·(exact Bc.Dl rfl 10 22 true rfl rfl (by decide) (fun _ _ _=>rfl) (fun _=>rfl))
    ·(exact Bc.D8 rfl 7 19 false rfl rfl (by decide) (fun _ _ _=>rfl) (fun _=>rfl))
    ·(refine Bc.rd rfl rfl (fun ρ us w6 ho ht hc hl hsrc hW=>?_);have e19:=zv (ht 19 (by decide)) (.bool true) rfl;have mB:=zv (ht 35 (by decide)) (undef) rfl;clear ht ho;simp only[execOp,e19,mB];go_simp;try rfl)
    intro us w9 hmem hW;simp only[qc,BR,BS,BU,BV,Act.put,BO,BP,BQ];generalize gp:qp _ _ us=sv;have hq:sv 36=.bool true:=(by rw[←gp];rfl);rw[hq];have HB:=zh (zu HB hW.1);clear gp hq hmem hW;clear rT uv;go_wp2
    go_ret
    exact⟨by rw[HF.out];rfl,gT.out _ HB.out⟩
   |true=>
    have rq:=zh hok;by_cases nL:0<k
    ·have hk1:k - 1<n:=(by omega);by_cases hle:x.id≤xp
     ·have HF:Hid ((qJ s l&&qo s)=false):=zh (by rw[uP.out (by rw[gV.out,hok,decide_eq_true nL,decide_eq_true hle];rfl)];rfl);clear hok px;go_wp2_with fail
      refine zB (by kernel_rfl) (by kernel_rfl) 39 rfl [12,13,14,15,16,17,18,19,20,21,22,23,24,25,26,27,28,29,30,31,32,33,34,35,36] [5] [(17,5)]
       [(12,[],fun _=>.agg #[.int .i64 s.K,.int .i64 s.M,.int .i64 s.size]),(13,[],fun _=>(.slice (some ⟨b,o,none⟩) n c)),(14,[],fun _=>.int .i64 (k:Int)),(15,[],fun _=>.pointer (some ⟨b,o+k* 4,none⟩)),(16,[],fun _=>.agg #[.int .i64 x.id,.int .i64 x.len,.int .i64 x.gen,.slice A3 n3 c3]),(18,[5],fun _=>.bool false),(19,[5],fun _=>.bool false),(20,[],fun _=>.int .i64 (k:Int)),(21,[],fun _=>.bool true),(22,[],fun _=>.bool true),(23,[],fun _=>(.slice (some ⟨b,o,none⟩) n c)),(24,[],fun _=>.int .i64 (k:Int)),(25,[],fun _=>.int .i64 ((k - 1:Nat):Int)),(26,[],fun _=>.pointer (some ⟨b,o+(k - 1)* 4,none⟩)),(27,[],fun _=>.pointer (some ⟨b,o+(k - 1)* 4,none⟩)),(28,[],fun _=>.int .i64 xp),(29,[],fun _=>(.slice (some ⟨b,o,none⟩) n c)),(30,[],fun _=>.int .i64 (k:Int)),(31,[],fun _=>.pointer (some ⟨b,o+k* 4,none⟩)),(32,[],fun _=>.pointer (some ⟨b,o+k* 4,none⟩)),(33,[],fun _=>.int .i64 x.id),(34,[],fun _=>.bool true),(35,[],fun _=>.bool true),(36,[],fun _=>.bool true)]
       [] [] [[],[],[],[13,14],[15],[12,16],[17],[18],[19],[20,19],[21,19],[22],[22],[24,22],[23,25,22],[26,22],[27,22],[22],[22],[29,30,22],[31,22],[32,22],[28,33,22],[22,34,19],[19,35]]
       (BL wr (fun i v _=>i=5→v=.bool true)) (by kernel_rfl) .init ⟨?_,?_,?_,?_,?_,?_,?_,?_,?_,?_,?_,?_,?_,?_,?_,?_,?_,?_,?_,?_,?_,?_,?_,?_,?_,trivial⟩ ?_
      ·(refine Bc.rd rfl rfl (fun ρ us w6 ho ht hc hl hsrc hW=>?_);have e2:=(ho 2 rfl).trans (show _=((.pointer (some ⟨w.heap.size,0,none⟩)):Value) from rfl);obtain⟨k0,k1,k2,z0,z1,z2,z3,zp⟩:=rT.out w6 (zu HB hW.1);clear ht ho;simp only[execOp,e2];go_simp;try rfl)
      ·(refine Bc.rd rfl rfl (fun ρ us w6 ho ht hc hl hsrc hW=>?_);have e1:=(ho 1 rfl).trans (show _=((.slice (some ⟨b,o,none⟩) n c):Value) from rfl);clear ht ho;simp only[execOp,e1];go_simp;try rfl)
      ·(refine Bc.rd rfl rfl (fun ρ us w6 ho ht hc hl hsrc hW=>?_);have e5:=zv (ho 5 rfl) (.int .i64 (k:Int)) rfl;clear ht ho;simp only[execOp,e5];go_simp;try rfl)
      ·(refine Bc.rd rfl rfl (fun ρ us w6 ho ht hc hl hsrc hW=>?_);have yD:=(ht 13 (by decide)).trans (show _=((.slice (some ⟨b,o,none⟩) n c):Value) from rfl);have pj:=zv (ht 14 (by decide)) (.int .i64 (k:Int)) rfl;clear ht ho;simp only[execOp,yD,pj];go_simp;try rfl)
      ·(refine Bc.rd rfl rfl (fun ρ us w6 ho ht hc hl hsrc hW=>?_);have yE:=zv (ht 15 (by decide)) (.pointer (some ⟨b,o+k* 4,none⟩)) rfl;obtain⟨k0,k1,k2,z0,z1,z2,z3,zp⟩:=rT.out w6 (zu HB hW.1);clear ht ho;simp only[execOp,yE];go_simp;try rfl)
      ·refine Bc.wr rfl (fun Z us w6 ho ht hni hlim gb hW K hK=>?_);have e12:=zv (ht 12 (by decide)) (.agg #[.int .i64 s.K,.int .i64 s.M,.int .i64 s.size]) rfl;have e16:=zv (ht 16 (by decide)) (.agg #[.int .i64 x.id,.int .i64 x.len,.int .i64 x.gen,.slice A3 n3 c3]) rfl;have hcl:=xt (w:=w6) (s:=s) (x:=x) (uv.out w6 (zu HB hW.1));rw[rq.out] at hcl;refine qi rfl 83 #[.tmp 12,.tmp 16] #[23,86] rfl Tryz.func83 (by kernel_rfl) (by kernel_rfl) #[.agg #[.int .i64 s.K,.int .i64 s.M,.int .i64 s.size],.agg #[.int .i64 x.id,.int .i64 x.len,.int .i64 x.gen,.slice A3 n3 c3]] (by simp[e12,e16];try first|done|rfl|exact⟨rfl,rfl⟩) (hcl) ?_;rintro e w7 ⟨rfl,gh⟩;exact⟨_,rfl,hK _ _ (hW.snoc gh (fun j v h=>h) (fun _=>rfl))⟩
      ·(refine Bc.rd rfl rfl (fun ρ us w6 ho ht hc hl hsrc hW=>?_);have e17:=zv (ht 17 (by decide)) ((us.lookup 5).getD undef) rfl;rw[hW.at_ (hsrc 5 (by exact(List.mem_singleton.2 rfl:(5:Nat)∈[5]))) rfl] at e17;clear ht ho;simp only[execOp,e17];go_simp;try rfl)
      ·(refine Bc.rd rfl rfl (fun ρ us w6 ho ht hc hl hsrc hW=>?_);have e18:=zv (ht 18 (by decide)) (.bool false) rfl;clear ht ho;simp only[execOp,e18];go_simp;try rfl)
      ·(refine Bc.BN rfl 7 19 false rfl rfl (by decide) (fun _ _ _=>rfl) (fun ρ us w6 ho ht hc hl hsrc hW=>?_);have e5:=zv (ho 5 rfl) (.int .i64 (k:Int)) rfl;clear ht ho;simp only[execOp,e5];go_simp;try rfl)
      ·(refine Bc.BN rfl 7 19 false rfl rfl (by decide) (fun _ _ _=>rfl) (fun ρ us w6 ho ht hc hl hsrc hW=>?_);have pH:=zv (ht 20 (by decide)) (.int .i64 (k:Int)) rfl;clear ht ho;simp only[execOp,pH];go_simp;first|rfl|exact congrArg Value.bool (decide_eq_true (by omega))|exact congrArg Value.bool (decide_eq_false (by omega))|(simp;done)|(simp;omega))
      ·(refine Bc.BN rfl 7 19 false rfl rfl (by decide) (fun _ _ _=>rfl) (fun ρ us w6 ho ht hc hl hsrc hW=>?_);have gW:=zv (ht 21 (by decide)) (.bool true) rfl;clear ht ho;simp only[execOp,gW];go_simp;try rfl)
      ·(refine Bc.BN rfl 10 22 true rfl rfl (by decide) (fun _ _ _=>rfl) (fun ρ us w6 ho ht hc hl hsrc hW=>?_);have e1:=(ho 1 rfl).trans (show _=((.slice (some ⟨b,o,none⟩) n c):Value) from rfl);clear ht ho;simp only[execOp,e1];go_simp;try rfl)
      ·(refine Bc.BN rfl 10 22 true rfl rfl (by decide) (fun _ _ _=>rfl) (fun ρ us w6 ho ht hc hl hsrc hW=>?_);have e5:=zv (ho 5 rfl) (.int .i64 (k:Int)) rfl;clear ht ho;simp only[execOp,e5];go_simp;try rfl)
      ·(refine Bc.BN rfl 10 22 true rfl rfl (by decide) (fun _ _ _=>rfl) (fun ρ us w6 ho ht hc hl hsrc hW=>?_);have nk:=zv (ht 24 (by decide)) (.int .i64 (k:Int)) rfl;clear ht ho;simp only[execOp,nk];go_simp;exact(congrArg (Value.int .i64) (Go.IntWalk.i64_in _ (by omega))).trans (congrArg (Value.int .i64) (by omega)))
      ·(refine Bc.BN rfl 10 22 true rfl rfl (by decide) (fun _ _ _=>rfl) (fun ρ us w6 ho ht hc hl hsrc hW=>?_);have e23:=(ht 23 (by decide)).trans (show _=((.slice (some ⟨b,o,none⟩) n c):Value) from rfl);have pk:=(ht 25 (by decide)).trans (show _=(.int .i64 ((k - 1:Nat):Int):Value) from rfl);clear ht ho;simp only[execOp,e23,pk];go_simp;try rfl)
      ·(refine Bc.BN rfl 10 22 true rfl rfl (by decide) (fun _ _ _=>rfl) (fun ρ us w6 ho ht hc hl hsrc hW=>?_);have e26:=(ht 26 (by decide)).trans (show _=(.pointer (some ⟨b,o+(k - 1)* 4,none⟩):Value) from rfl);clear ht ho;simp only[execOp,e26];go_simp;try rfl)
      ·(refine Bc.BN rfl 10 22 true rfl rfl (by decide) (fun _ _ _=>rfl) (fun ρ us w6 ho ht hc hl hsrc hW=>?_);have rZ:=(ht 27 (by decide)).trans (show _=(.pointer (some ⟨b,o+(k - 1)* 4,none⟩):Value) from rfl);obtain⟨k0,k1,k2,z0,z1,z2,z3,zp⟩:=rT.out w6 (zu HB hW.1);clear ht ho;simp only[execOp,rZ];go_simp;try rfl)
      ·(refine Bc.BN rfl 10 22 true rfl rfl (by decide) (fun _ _ _=>rfl) (fun ρ us w6 ho ht hc hl hsrc hW=>?_);have e1:=(ho 1 rfl).trans (show _=((.slice (some ⟨b,o,none⟩) n c):Value) from rfl);clear ht ho;simp only[execOp,e1];go_simp;try rfl)
      ·(refine Bc.BN rfl 10 22 true rfl rfl (by decide) (fun _ _ _=>rfl) (fun ρ us w6 ho ht hc hl hsrc hW=>?_);have e5:=zv (ho 5 rfl) (.int .i64 (k:Int)) rfl;clear ht ho;simp only[execOp,e5];go_simp;try rfl)
      ·(refine Bc.BN rfl 10 22 true rfl rfl (by decide) (fun _ _ _=>rfl) (fun ρ us w6 ho ht hc hl hsrc hW=>?_);have nI:=(ht 29 (by decide)).trans (show _=((.slice (some ⟨b,o,none⟩) n c):Value) from rfl);have pE:=zv (ht 30 (by decide)) (.int .i64 (k:Int)) rfl;clear ht ho;simp only[execOp,nI,pE];go_simp;try rfl)
      ·(refine Bc.BN rfl 10 22 true rfl rfl (by decide) (fun _ _ _=>rfl) (fun ρ us w6 ho ht hc hl hsrc hW=>?_);have mg:=zv (ht 31 (by decide)) (.pointer (some ⟨b,o+k* 4,none⟩)) rfl;clear ht ho;simp only[execOp,mg];go_simp;try rfl)
      ·(refine Bc.BN rfl 10 22 true rfl rfl (by decide) (fun _ _ _=>rfl) (fun ρ us w6 ho ht hc hl hsrc hW=>?_);have mD:=zv (ht 32 (by decide)) (.pointer (some ⟨b,o+k* 4,none⟩)) rfl;obtain⟨k0,k1,k2,z0,z1,z2,z3,zp⟩:=rT.out w6 (zu HB hW.1);clear ht ho;simp only[execOp,mD];go_simp;try rfl)
      ·(refine Bc.BN rfl 10 22 true rfl rfl (by decide) (fun _ _ _=>rfl) (fun ρ us w6 ho ht hc hl hsrc hW=>?_);have rh:=zv (ht 28 (by decide)) (.int .i64 xp) rfl;have q9:=zv (ht 33 (by decide)) (.int .i64 x.id) rfl;clear ht ho;simp only[execOp,rh,q9];go_simp;first|rfl|exact congrArg Value.bool (decide_eq_true (by omega))|exact congrArg Value.bool (decide_eq_false (by omega))|(simp;done)|(simp;omega))
      ·(refine Bc.BN rfl 7 19 false rfl rfl (by decide) (fun _ _ _=>rfl) (fun ρ us w6 ho ht hc hl hsrc hW=>?_);have yF:=zv (ht 22 (by decide)) (.bool true) rfl;have q8:=zv (ht 34 (by decide)) (.bool true) rfl;clear ht ho;simp only[execOp,yF,q8];go_simp;try rfl)
      ·(refine Bc.rd rfl rfl (fun ρ us w6 ho ht hc hl hsrc hW=>?_);have e19:=zv (ht 19 (by decide)) (.bool false) rfl;have mB:=zv (ht 35 (by decide)) (.bool true) rfl;clear ht ho;simp only[execOp,e19,mB];go_simp;try rfl)
      intro us w9 hmem hW;simp only[qc,BR,BS,BU,BV,Act.put,BO,BP,BQ];generalize gp:qp _ _ us=sv;have hq:sv 36=.bool true:=(by rw[←gp];rfl);rw[hq];have HB:=zh (zu HB hW.1);clear gp hq hmem hW;clear rT uv;go_wp2
      go_ret
      exact⟨by rw[HF.out];rfl,gT.out _ HB.out⟩
     have HF:=zh (px.out (by rw[gV.out,hok,decide_eq_true nL,decide_eq_false hle];rfl));clear hok px;go_wp2_with fail
     refine zB (by kernel_rfl) (by kernel_rfl) 39 rfl [12,13,14,15,16,17,18,19,20,21,22,23,24,25,26,27,28,29,30,31,32,33,34,35,36] [5] [(17,5)]
      [(12,[],fun _=>.agg #[.int .i64 s.K,.int .i64 s.M,.int .i64 s.size]),(13,[],fun _=>(.slice (some ⟨b,o,none⟩) n c)),(14,[],fun _=>.int .i64 (k:Int)),(15,[],fun _=>.pointer (some ⟨b,o+k* 4,none⟩)),(16,[],fun _=>.agg #[.int .i64 x.id,.int .i64 x.len,.int .i64 x.gen,.slice A3 n3 c3]),(18,[5],fun _=>.bool false),(19,[5],fun _=>.bool false),(20,[],fun _=>.int .i64 (k:Int)),(21,[],fun _=>.bool true),(22,[],fun _=>.bool true),(23,[],fun _=>(.slice (some ⟨b,o,none⟩) n c)),(24,[],fun _=>.int .i64 (k:Int)),(25,[],fun _=>.int .i64 ((k - 1:Nat):Int)),(26,[],fun _=>.pointer (some ⟨b,o+(k - 1)* 4,none⟩)),(27,[],fun _=>.pointer (some ⟨b,o+(k - 1)* 4,none⟩)),(28,[],fun _=>.int .i64 xp),(29,[],fun _=>(.slice (some ⟨b,o,none⟩) n c)),(30,[],fun _=>.int .i64 (k:Int)),(31,[],fun _=>.pointer (some ⟨b,o+k* 4,none⟩)),(32,[],fun _=>.pointer (some ⟨b,o+k* 4,none⟩)),(33,[],fun _=>.int .i64 x.id),(34,[],fun _=>.bool false),(35,[],fun _=>.bool false),(36,[],fun _=>.bool false)]
      [] [] [[],[],[],[13,14],[15],[12,16],[17],[18],[19],[20,19],[21,19],[22],[22],[24,22],[23,25,22],[26,22],[27,22],[22],[22],[29,30,22],[31,22],[32,22],[28,33,22],[22,34,19],[19,35]]
      (BL wr (fun i v _=>i=5→v=.bool true)) (by kernel_rfl) .init ⟨?_,?_,?_,?_,?_,?_,?_,?_,?_,?_,?_,?_,?_,?_,?_,?_,?_,?_,?_,?_,?_,?_,?_,?_,?_,trivial⟩ ?_
     ·(refine Bc.rd rfl rfl (fun ρ us w6 ho ht hc hl hsrc hW=>?_);have e2:=(ho 2 rfl).trans (show _=((.pointer (some ⟨w.heap.size,0,none⟩)):Value) from rfl);obtain⟨k0,k1,k2,z0,z1,z2,z3,zp⟩:=rT.out w6 (zu HB hW.1);clear ht ho;simp only[execOp,e2];go_simp;try rfl)
     ·(refine Bc.rd rfl rfl (fun ρ us w6 ho ht hc hl hsrc hW=>?_);have e1:=(ho 1 rfl).trans (show _=((.slice (some ⟨b,o,none⟩) n c):Value) from rfl);clear ht ho;simp only[execOp,e1];go_simp;try rfl)
     ·(refine Bc.rd rfl rfl (fun ρ us w6 ho ht hc hl hsrc hW=>?_);have e5:=zv (ho 5 rfl) (.int .i64 (k:Int)) rfl;clear ht ho;simp only[execOp,e5];go_simp;try rfl)
     ·(refine Bc.rd rfl rfl (fun ρ us w6 ho ht hc hl hsrc hW=>?_);have yD:=(ht 13 (by decide)).trans (show _=((.slice (some ⟨b,o,none⟩) n c):Value) from rfl);have pj:=zv (ht 14 (by decide)) (.int .i64 (k:Int)) rfl;clear ht ho;simp only[execOp,yD,pj];go_simp;try rfl)
     ·(refine Bc.rd rfl rfl (fun ρ us w6 ho ht hc hl hsrc hW=>?_);have yE:=zv (ht 15 (by decide)) (.pointer (some ⟨b,o+k* 4,none⟩)) rfl;obtain⟨k0,k1,k2,z0,z1,z2,z3,zp⟩:=rT.out w6 (zu HB hW.1);clear ht ho;simp only[execOp,yE];go_simp;try rfl)
     ·refine Bc.wr rfl (fun Z us w6 ho ht hni hlim gb hW K hK=>?_);have e12:=zv (ht 12 (by decide)) (.agg #[.int .i64 s.K,.int .i64 s.M,.int .i64 s.size]) rfl;have e16:=zv (ht 16 (by decide)) (.agg #[.int .i64 x.id,.int .i64 x.len,.int .i64 x.gen,.slice A3 n3 c3]) rfl;have hcl:=xt (w:=w6) (s:=s) (x:=x) (uv.out w6 (zu HB hW.1));rw[rq.out] at hcl;refine qi rfl 83 #[.tmp 12,.tmp 16] #[23,86] rfl Tryz.func83 (by kernel_rfl) (by kernel_rfl) #[.agg #[.int .i64 s.K,.int .i64 s.M,.int .i64 s.size],.agg #[.int .i64 x.id,.int .i64 x.len,.int .i64 x.gen,.slice A3 n3 c3]] (by simp[e12,e16];try first|done|rfl|exact⟨rfl,rfl⟩) (hcl) ?_;rintro e w7 ⟨rfl,gh⟩;exact⟨_,rfl,hK _ _ (hW.snoc gh (fun j v h=>h) (fun _=>rfl))⟩
     ·(refine Bc.rd rfl rfl (fun ρ us w6 ho ht hc hl hsrc hW=>?_);have e17:=zv (ht 17 (by decide)) ((us.lookup 5).getD undef) rfl;rw[hW.at_ (hsrc 5 (by exact(List.mem_singleton.2 rfl:(5:Nat)∈[5]))) rfl] at e17;clear ht ho;simp only[execOp,e17];go_simp;try rfl)
     ·(refine Bc.rd rfl rfl (fun ρ us w6 ho ht hc hl hsrc hW=>?_);have e18:=zv (ht 18 (by decide)) (.bool false) rfl;clear ht ho;simp only[execOp,e18];go_simp;try rfl)
     ·(refine Bc.BN rfl 7 19 false rfl rfl (by decide) (fun _ _ _=>rfl) (fun ρ us w6 ho ht hc hl hsrc hW=>?_);have e5:=zv (ho 5 rfl) (.int .i64 (k:Int)) rfl;clear ht ho;simp only[execOp,e5];go_simp;try rfl)
     ·(refine Bc.BN rfl 7 19 false rfl rfl (by decide) (fun _ _ _=>rfl) (fun ρ us w6 ho ht hc hl hsrc hW=>?_);have pH:=zv (ht 20 (by decide)) (.int .i64 (k:Int)) rfl;clear ht ho;simp only[execOp,pH];go_simp;first|rfl|exact congrArg Value.bool (decide_eq_true (by omega))|exact congrArg Value.bool (decide_eq_false (by omega))|(simp;done)|(simp;omega))
     ·(refine Bc.BN rfl 7 19 false rfl rfl (by decide) (fun _ _ _=>rfl) (fun ρ us w6 ho ht hc hl hsrc hW=>?_);have gW:=zv (ht 21 (by decide)) (.bool true) rfl;clear ht ho;simp only[execOp,gW];go_simp;try rfl)
     ·(refine Bc.BN rfl 10 22 true rfl rfl (by decide) (fun _ _ _=>rfl) (fun ρ us w6 ho ht hc hl hsrc hW=>?_);have e1:=(ho 1 rfl).trans (show _=((.slice (some ⟨b,o,none⟩) n c):Value) from rfl);clear ht ho;simp only[execOp,e1];go_simp;try rfl)
     ·(refine Bc.BN rfl 10 22 true rfl rfl (by decide) (fun _ _ _=>rfl) (fun ρ us w6 ho ht hc hl hsrc hW=>?_);have e5:=zv (ho 5 rfl) (.int .i64 (k:Int)) rfl;clear ht ho;simp only[execOp,e5];go_simp;try rfl)
     ·(refine Bc.BN rfl 10 22 true rfl rfl (by decide) (fun _ _ _=>rfl) (fun ρ us w6 ho ht hc hl hsrc hW=>?_);have nk:=zv (ht 24 (by decide)) (.int .i64 (k:Int)) rfl;clear ht ho;simp only[execOp,nk];go_simp;exact(congrArg (Value.int .i64) (Go.IntWalk.i64_in _ (by omega))).trans (congrArg (Value.int .i64) (by omega)))
     ·(refine Bc.BN rfl 10 22 true rfl rfl (by decide) (fun _ _ _=>rfl) (fun ρ us w6 ho ht hc hl hsrc hW=>?_);have e23:=(ht 23 (by decide)).trans (show _=((.slice (some ⟨b,o,none⟩) n c):Value) from rfl);have pk:=(ht 25 (by decide)).trans (show _=(.int .i64 ((k - 1:Nat):Int):Value) from rfl);clear ht ho;simp only[execOp,e23,pk];go_simp;try rfl)
     ·(refine Bc.BN rfl 10 22 true rfl rfl (by decide) (fun _ _ _=>rfl) (fun ρ us w6 ho ht hc hl hsrc hW=>?_);have e26:=(ht 26 (by decide)).trans (show _=(.pointer (some ⟨b,o+(k - 1)* 4,none⟩):Value) from rfl);clear ht ho;simp only[execOp,e26];go_simp;try rfl)
     ·(refine Bc.BN rfl 10 22 true rfl rfl (by decide) (fun _ _ _=>rfl) (fun ρ us w6 ho ht hc hl hsrc hW=>?_);have rZ:=(ht 27 (by decide)).trans (show _=(.pointer (some ⟨b,o+(k - 1)* 4,none⟩):Value) from rfl);obtain⟨k0,k1,k2,z0,z1,z2,z3,zp⟩:=rT.out w6 (zu HB hW.1);clear ht ho;simp only[execOp,rZ];go_simp;try rfl)
     ·(refine Bc.BN rfl 10 22 true rfl rfl (by decide) (fun _ _ _=>rfl) (fun ρ us w6 ho ht hc hl hsrc hW=>?_);have e1:=(ho 1 rfl).trans (show _=((.slice (some ⟨b,o,none⟩) n c):Value) from rfl);clear ht ho;simp only[execOp,e1];go_simp;try rfl)
     ·(refine Bc.BN rfl 10 22 true rfl rfl (by decide) (fun _ _ _=>rfl) (fun ρ us w6 ho ht hc hl hsrc hW=>?_);have e5:=zv (ho 5 rfl) (.int .i64 (k:Int)) rfl;clear ht ho;simp only[execOp,e5];go_simp;try rfl)
     ·(refine Bc.BN rfl 10 22 true rfl rfl (by decide) (fun _ _ _=>rfl) (fun ρ us w6 ho ht hc hl hsrc hW=>?_);have nI:=(ht 29 (by decide)).trans (show _=((.slice (some ⟨b,o,none⟩) n c):Value) from rfl);have pE:=zv (ht 30 (by decide)) (.int .i64 (k:Int)) rfl;clear ht ho;simp only[execOp,nI,pE];go_simp;try rfl)
     ·(refine Bc.BN rfl 10 22 true rfl rfl (by decide) (fun _ _ _=>rfl) (fun ρ us w6 ho ht hc hl hsrc hW=>?_);have mg:=zv (ht 31 (by decide)) (.pointer (some ⟨b,o+k* 4,none⟩)) rfl;clear ht ho;simp only[execOp,mg];go_simp;try rfl)
     ·(refine Bc.BN rfl 10 22 true rfl rfl (by decide) (fun _ _ _=>rfl) (fun ρ us w6 ho ht hc hl hsrc hW=>?_);have mD:=zv (ht 32 (by decide)) (.pointer (some ⟨b,o+k* 4,none⟩)) rfl;obtain⟨k0,k1,k2,z0,z1,z2,z3,zp⟩:=rT.out w6 (zu HB hW.1);clear ht ho;simp only[execOp,mD];go_simp;try rfl)
     ·(refine Bc.BN rfl 10 22 true rfl rfl (by decide) (fun _ _ _=>rfl) (fun ρ us w6 ho ht hc hl hsrc hW=>?_);have rh:=zv (ht 28 (by decide)) (.int .i64 xp) rfl;have q9:=zv (ht 33 (by decide)) (.int .i64 x.id) rfl;clear ht ho;simp only[execOp,rh,q9];go_simp;first|rfl|exact congrArg Value.bool (decide_eq_true (by omega))|exact congrArg Value.bool (decide_eq_false (by omega))|(simp;done)|(simp;omega))
     ·(refine Bc.BN rfl 7 19 false rfl rfl (by decide) (fun _ _ _=>rfl) (fun ρ us w6 ho ht hc hl hsrc hW=>?_);have yF:=zv (ht 22 (by decide)) (.bool true) rfl;have q8:=zv (ht 34 (by decide)) (.bool false) rfl;clear ht ho;simp only[execOp,yF,q8];go_simp;try rfl)
     ·(refine Bc.rd rfl rfl (fun ρ us w6 ho ht hc hl hsrc hW=>?_);have e19:=zv (ht 19 (by decide)) (.bool false) rfl;have mB:=zv (ht 35 (by decide)) (.bool false) rfl;clear ht ho;simp only[execOp,e19,mB];go_simp;try rfl)
     intro us w9 hmem hW;simp only[qc,BR,BS,BU,BV,Act.put,BO,BP,BQ];generalize gp:qp _ _ us=sv;have hq:sv 36=.bool false:=(by rw[←gp];rfl);rw[hq];have HB:=zh (zu HB hW.1);clear gp hq hmem hW;clear rT uv;go_wp2
     exact⟨⟨k+1,by omega,by go_num,HB,HF⟩,by simp[intOf];omega⟩
    have HF:=zh (px.out (by rw[gV.out,hok,decide_eq_false nL];rfl));clear hok px;go_wp2_with fail
    refine zB (by kernel_rfl) (by kernel_rfl) 39 rfl [12,13,14,15,16,17,18,19,20,21,22,23,24,25,26,27,28,29,30,31,32,33,34,35,36] [5] [(17,5)]
     [(12,[],fun _=>.agg #[.int .i64 s.K,.int .i64 s.M,.int .i64 s.size]),(13,[],fun _=>(.slice (some ⟨b,o,none⟩) n c)),(14,[],fun _=>.int .i64 (k:Int)),(15,[],fun _=>.pointer (some ⟨b,o+k* 4,none⟩)),(16,[],fun _=>.agg #[.int .i64 x.id,.int .i64 x.len,.int .i64 x.gen,.slice A3 n3 c3]),(18,[5],fun _=>.bool false),(19,[5],fun _=>.bool false),(20,[],fun _=>.int .i64 (k:Int)),(21,[],fun _=>.bool false),(22,[],fun _=>.bool false),(23,[],fun _=>undef),(24,[],fun _=>undef),(25,[],fun _=>undef),(26,[],fun _=>undef),(27,[],fun _=>undef),(28,[],fun _=>undef),(29,[],fun _=>undef),(30,[],fun _=>undef),(31,[],fun _=>undef),(32,[],fun _=>undef),(33,[],fun _=>undef),(34,[],fun _=>undef),(35,[],fun _=>.bool false),(36,[],fun _=>.bool false)]
     [] [] [[],[],[],[13,14],[15],[12,16],[17],[18],[19],[20,19],[21,19],[22],[22],[24,22],[23,25,22],[26,22],[27,22],[22],[22],[29,30,22],[31,22],[32,22],[28,33,22],[22,34,19],[19,35]]
     (BL wr (fun i v _=>i=5→v=.bool true)) (by kernel_rfl) .init ⟨?_,?_,?_,?_,?_,?_,?_,?_,?_,?_,?_,?_,?_,?_,?_,?_,?_,?_,?_,?_,?_,?_,?_,?_,?_,trivial⟩ ?_
    ·(refine Bc.rd rfl rfl (fun ρ us w6 ho ht hc hl hsrc hW=>?_);have e2:=(ho 2 rfl).trans (show _=((.pointer (some ⟨w.heap.size,0,none⟩)):Value) from rfl);obtain⟨k0,k1,k2,z0,z1,z2,z3,zp⟩:=rT.out w6 (zu HB hW.1);clear ht ho;simp only[execOp,e2];go_simp;try rfl)
    ·(refine Bc.rd rfl rfl (fun ρ us w6 ho ht hc hl hsrc hW=>?_);have e1:=(ho 1 rfl).trans (show _=((.slice (some ⟨b,o,none⟩) n c):Value) from rfl);clear ht ho;simp only[execOp,e1];go_simp;try rfl)
    ·(refine Bc.rd rfl rfl (fun ρ us w6 ho ht hc hl hsrc hW=>?_);have e5:=zv (ho 5 rfl) (.int .i64 (k:Int)) rfl;clear ht ho;simp only[execOp,e5];go_simp;try rfl)
    ·(refine Bc.rd rfl rfl (fun ρ us w6 ho ht hc hl hsrc hW=>?_);have yD:=(ht 13 (by decide)).trans (show _=((.slice (some ⟨b,o,none⟩) n c):Value) from rfl);have pj:=zv (ht 14 (by decide)) (.int .i64 (k:Int)) rfl;clear ht ho;simp only[execOp,yD,pj];go_simp;try rfl)
    ·(refine Bc.rd rfl rfl (fun ρ us w6 ho ht hc hl hsrc hW=>?_);have yE:=zv (ht 15 (by decide)) (.pointer (some ⟨b,o+k* 4,none⟩)) rfl;obtain⟨k0,k1,k2,z0,z1,z2,z3,zp⟩:=rT.out w6 (zu HB hW.1);clear ht ho;simp only[execOp,yE];go_simp;try rfl)
    ·refine Bc.wr rfl (fun Z us w6 ho ht hni hlim gb hW K hK=>?_);have e12:=zv (ht 12 (by decide)) (.agg #[.int .i64 s.K,.int .i64 s.M,.int .i64 s.size]) rfl;have e16:=zv (ht 16 (by decide)) (.agg #[.int .i64 x.id,.int .i64 x.len,.int .i64 x.gen,.slice A3 n3 c3]) rfl;have hcl:=xt (w:=w6) (s:=s) (x:=x) (uv.out w6 (zu HB hW.1));rw[rq.out] at hcl;refine qi rfl 83 #[.tmp 12,.tmp 16] #[23,86] rfl Tryz.func83 (by kernel_rfl) (by kernel_rfl) #[.agg #[.int .i64 s.K,.int .i64 s.M,.int .i64 s.size],.agg #[.int .i64 x.id,.int .i64 x.len,.int .i64 x.gen,.slice A3 n3 c3]] (by simp[e12,e16];try first|done|rfl|exact⟨rfl,rfl⟩) (hcl) ?_;rintro e w7 ⟨rfl,gh⟩;exact⟨_,rfl,hK _ _ (hW.snoc gh (fun j v h=>h) (fun _=>rfl))⟩
    ·(refine Bc.rd rfl rfl (fun ρ us w6 ho ht hc hl hsrc hW=>?_);have e17:=zv (ht 17 (by decide)) ((us.lookup 5).getD undef) rfl;rw[hW.at_ (hsrc 5 (by exact(List.mem_singleton.2 rfl:(5:Nat)∈[5]))) rfl] at e17;clear ht ho;simp only[execOp,e17];go_simp;try rfl)
    ·(refine Bc.rd rfl rfl (fun ρ us w6 ho ht hc hl hsrc hW=>?_);have e18:=zv (ht 18 (by decide)) (.bool false) rfl;clear ht ho;simp only[execOp,e18];go_simp;try rfl)
    ·(refine Bc.BN rfl 7 19 false rfl rfl (by decide) (fun _ _ _=>rfl) (fun ρ us w6 ho ht hc hl hsrc hW=>?_);have e5:=zv (ho 5 rfl) (.int .i64 (k:Int)) rfl;clear ht ho;simp only[execOp,e5];go_simp;try rfl)
    ·(refine Bc.BN rfl 7 19 false rfl rfl (by decide) (fun _ _ _=>rfl) (fun ρ us w6 ho ht hc hl hsrc hW=>?_);have pH:=zv (ht 20 (by decide)) (.int .i64 (k:Int)) rfl;clear ht ho;simp only[execOp,pH];go_simp;first|rfl|exact congrArg Value.bool (decide_eq_true (by omega))|exact congrArg Value.bool (decide_eq_false (by omega))|(simp;done)|(simp;omega))
    ·(refine Bc.BN rfl 7 19 false rfl rfl (by decide) (fun _ _ _=>rfl) (fun ρ us w6 ho ht hc hl hsrc hW=>?_);have gW:=zv (ht 21 (by decide)) (.bool false) rfl;clear ht ho;simp only[execOp,gW];go_simp;try rfl)
    ·(exact Bc.D8 rfl 10 22 true rfl rfl (by decide) (fun _ _ _=>rfl) (fun _=>rfl))
    ·(exact Bc.D8 rfl 10 22 true rfl rfl (by decide) (fun _ _ _=>rfl) (fun _=>rfl))
    ·(exact Bc.D8 rfl 10 22 true rfl rfl (by decide) (fun _ _ _=>rfl) (fun _=>rfl))
    ·(exact Bc.D8 rfl 10 22 true rfl rfl (by decide) (fun _ _ _=>rfl) (fun _=>rfl))
    ·(exact Bc.D8 rfl 10 22 true rfl rfl (by decide) (fun _ _ _=>rfl) (fun _=>rfl))
    ·(exact Bc.D8 rfl 10 22 true rfl rfl (by decide) (fun _ _ _=>rfl) (fun _=>rfl))
    ·(exact Bc.D8 rfl 10 22 true rfl rfl (by decide) (fun _ _ _=>rfl) (fun _=>rfl))
    ·(exact Bc.D8 rfl 10 22 true rfl rfl (by decide) (fun _ _ _=>rfl) (fun _=>rfl))
    ·(exact Bc.D8 rfl 10 22 true rfl rfl (by decide) (fun _ _ _=>rfl) (fun _=>rfl))
    ·(exact Bc.D8 rfl 10 22 true rfl rfl (by decide) (fun _ _ _=>rfl) (fun _=>rfl))
    ·(exact Bc.D8 rfl 10 22 true rfl rfl (by decide) (fun _ _ _=>rfl) (fun _=>rfl))
    ·(exact Bc.D8 rfl 10 22 true rfl rfl (by decide) (fun _ _ _=>rfl) (fun _=>rfl))
    ·(refine Bc.BN rfl 7 19 false rfl rfl (by decide) (fun _ _ _=>rfl) (fun ρ us w6 ho ht hc hl hsrc hW=>?_);have yF:=zv (ht 22 (by decide)) (.bool false) rfl;have q8:=zv (ht 34 (by decide)) (undef) rfl;clear ht ho;simp only[execOp,yF,q8];go_simp;try rfl)
    ·(refine Bc.rd rfl rfl (fun ρ us w6 ho ht hc hl hsrc hW=>?_);have e19:=zv (ht 19 (by decide)) (.bool false) rfl;have mB:=zv (ht 35 (by decide)) (.bool false) rfl;clear ht ho;simp only[execOp,e19,mB];go_simp;try rfl)
    intro us w9 hmem hW;simp only[qc,BR,BS,BU,BV,Act.put,BO,BP,BQ];generalize gp:qp _ _ us=sv;have hq:sv 36=.bool false:=(by rw[←gp];rfl);rw[hq];have HB:=zh (zu HB hW.1);clear gp hq hmem hW;clear rT uv;go_wp2
    exact⟨⟨k+1,by omega,by go_num,HB,HF⟩,by simp[intOf];omega⟩
  have HF:Hid (qJ s l=true):=zh (jl (fun j hj=>he.out j (by have:=HL.out;omega)));obtain⟨k0,k1,k2⟩:=ROW.out wr HB.out;go_wp2_with fail
  refine(Ct (s:=s)).mono ?_;clear k0 k1 k2;rintro r w9 ⟨rfl,mh⟩;have gy:=zt HB mh;clear mh;go_wp2
  go_ret
  exact⟨by rw[HF.out];rfl,gT.out _ gy.out⟩
end Go.Proofs.YtipecejghioicaaGreat
