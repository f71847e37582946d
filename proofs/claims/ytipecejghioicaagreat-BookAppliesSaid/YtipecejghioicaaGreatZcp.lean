/- Siloref0: structures, second part: equal? a copy. -/
import Derived.Test.YtipecejghioicaaGreatProg
import Derived.Test.YtipecejghioicaaGreatDatap
import Derived.Outline
import Derived.BigQuiet
import Derived.Deep.QuietTactic
import Derived.WalkSpells
import Derived.Laws.StructEq
set_option maxHeartbeats 400000
namespace Go.Proofs.YtipecejghioicaaGreat
open Go.RowKit Go.Silo
theorem xb {β:Type}{xs ys:List β}{k:Nat}{d:β}(h:xs.take k=ys.take k) (h1:k<xs.length) (h2:k<ys.length) (he:xs.getD k d=ys.getD k d):xs.take (k+1)=ys.take (k+1):=by
 rw[zd (d:=d) h1,zd (d:=d) h2,h,he]
theorem toList_inj {a b:ByteArray}:a.toList=b.toList↔a=b:=⟨fun h=>by
 rw[ByteArray.toList_eq,ByteArray.toList_eq] at h;obtain⟨⟨x⟩⟩:=a;obtain⟨⟨y⟩⟩:=b;have:x=y:=h
 subst this;rfl,fun h=>by rw[h]⟩
theorem Tryz.D8:(Tryz.prog.info? 3).map (fun i=>(i.zero,i.size,i.bytes))=some (some (.int .i64 0),1,8):=by kernel_rfl
theorem Tryz.Dt:(Tryz.prog.info? 4).map (fun i=>(i.zero,i.size,i.bytes))=some (some (.bool false),1,1):=by kernel_rfl
theorem Tryz.CB:(Tryz.prog.info? 88).map (fun i=>(i.zero,i.size,i.bytes))=some (some (.agg #[.int .i64 0,.int .i64 0]),2,16):=by kernel_rfl
theorem Tryz.BX:(Tryz.prog.info? 94).map (fun i=>(i.zero,i.size,i.bytes))=some (some (.agg #[.string ByteArray.empty,.string ByteArray.empty]),2,32):=by kernel_rfl
theorem jR (x y:Slot) (W:World):(Op.equalIn 10000 88 (.agg #[.int .i64 x.disk,.int .i64 x.pos]) (.agg #[.int .i64 y.disk,.int .i64 y.pos])).run Tryz.prog W=.ok (decide (x=y)) W:=by
 have hs:Tryz.prog.stoodInHeld 88=false:=by kernel_rfl
 have hf:Tryz.prog.underlying 88=some (.struct (Tryz.prog.fieldsOf 88)):=by kernel_rfl
 rw[run_equalIn_struct W 9999 88 _ _ hf hs];rw[show decide (x=y)=decide (x.disk=y.disk∧x.pos=y.pos) from decide_eq_decide.2 Slot.Br];simp[go_sem,Tryz.underlying88,Tryz.underlying3];by_cases h:x.disk=y.disk<;>by_cases h2:x.pos=y.pos<;>simp[h,h2]
theorem jS:Tryz.prog.eqGuardType Tryz.prog.depth 88=false:=by kernel_rfl
theorem XF (x y:Tag) (W:World):(Op.equalIn 10000 94 (.agg #[.string x.name,.string x.digest]) (.agg #[.string y.name,.string y.digest])).run Tryz.prog W=.ok (decide (x=y)) W:=by
 have hs:Tryz.prog.stoodInHeld 94=false:=by kernel_rfl
 have hf:Tryz.prog.underlying 94=some (.struct (Tryz.prog.fieldsOf 94)):=by kernel_rfl
 rw[run_equalIn_struct W 9999 94 _ _ hf hs];rw[show decide (x=y)=decide (x.name=y.name∧x.digest=y.digest) from decide_eq_decide.2 Tag.Br];simp[go_sem,Tryz.underlying94,Tryz.underlying9];by_cases h:x.name=y.name<;>by_cases h2:x.digest=y.digest<;>simp[h,h2,toList_inj]
theorem XG:Tryz.prog.eqGuardType Tryz.prog.depth 94=false:=by kernel_rfl
theorem xU {tg:Bool}{T:TypeId}{S:Nat→Prop}{w:World}{A:Option Addr}{n c:Nat}{xs:List Int}(h:Sl tg T qD w S A n c xs) (hn:n≤100000000):
  Calls Tryz.prog 53 #[.slice A n c] w (qF 3 qD w xs):=by
 obtain⟨i0,hi,hz0,hz1,hz2⟩:=info_parts Tryz.D8;have hl:=h.len;have HL:=zh hl
 go_enter Tryz.func53,Tryz.ntmps53
 clear hl;go_wp2
 go_loopw [3,4] (fun v i wr=>∃k:Nat,∃A' c',k≤n∧i=.int .i64 k∧v=.slice A' k c'∧Bo 3 qD wr w.heap.size (fun b=>w.heap.size≤b) A' k c' (xs.take k)∧Below w.heap.size w wr) (fun _ i _=>n - (intOf i).toNat)
 case atStart=>exact⟨0,none,0,Nat.zero_le _,rfl,rfl,by simpa using Bo.Bz,Below.refl _ _⟩
 case round=>
  obtain⟨k,A',c',hk,rfl,rfl,hown,hb⟩:=hrel;by_cases hlt:k<n
  ·obtain⟨b,off,rfl,hS,hbl,g1,hc0,_⟩:=(h.all hb).BN hlt;have HB:=zh hb;clear hb;go_wp2_with (at_builtin;refine qs rfl _ _ 36 rfl i0 (.int .i64 0) 8 Tryz.underlying36 hi hz0 hz1 hz2 rfl (by decide) rfl (hown.frame (Agree.alloc _ _ _) (by simp)) wr.heap.size 3 1 _ (xs.getD k 0) rfl (heap_alloc_new _ _) ⟨rfl,g1⟩ (by omega) (by omega) (by have:=HB.out.size;simp;omega) ?_)
   intro A2 c2 w2 hown2 hg2 _;go_wp2
   go_roundw
   case rel=>
    have hb:=HB.out;refine⟨k+1,A2,c2,by omega,by go_num,rfl,?_,?_⟩
    ·rw[zd (d:=0) (by have:=HL.out;omega)];exact hown2
    exact(hb.alloc (by have:=hb.size;omega) _).grown hg2 (by have:=hb.size;simp;omega) (fun k hk=>(hown.lt k hk).1)
   case measure=>simp[intOf];omega
  go_wp2
  go_ret
  obtain rfl:k=n:=by omega
  have e1:=HL.out;subst e1;rw[List.take_length] at hown;exact⟨A',c',rfl,hown,hb⟩
theorem xF {tg:Bool}{T:TypeId}{S:Nat→Prop}{w:World}{A:Option Addr}{n c:Nat}{xs:List Slot}(h:Sl tg T qp w S A n c xs) (hn:n≤100000000):
  Calls Tryz.prog 60 #[.slice A n c] w (qF 88 qp w xs):=by
 obtain⟨i0,hi,hz0,hz1,hz2⟩:=info_parts Tryz.CB;have hl:=h.len;have HL:=zh hl
 go_enter Tryz.func60,Tryz.ntmps60
 clear hl;go_wp2
 go_loopw [3,4] (fun v i wr=>∃k:Nat,∃A' c',k≤n∧i=.int .i64 k∧v=.slice A' k c'∧Bo 88 qp wr w.heap.size (fun b=>w.heap.size≤b) A' k c' (xs.take k)∧Below w.heap.size w wr) (fun _ i _=>n - (intOf i).toNat)
 case atStart=>exact⟨0,none,0,Nat.zero_le _,rfl,rfl,by simpa using Bo.Bz,Below.refl _ _⟩
 case round=>
  obtain⟨k,A',c',hk,rfl,rfl,hown,hb⟩:=hrel;by_cases hlt:k<n
  ·obtain⟨b,off,rfl,hS,hbl,g1,g2,hc0,hc1,_,_⟩:=(h.all hb).BA hlt;have HB:=zh hb;clear hb;go_wp2_with (at_builtin;refine qs rfl _ _ 59 rfl i0 (.agg #[.int .i64 0,.int .i64 0]) 16 Tryz.underlying59 hi hz0 hz1 hz2 rfl (by decide) rfl (hown.frame (Agree.alloc _ _ _) (by simp)) wr.heap.size 88 1 _ (xs.getD k default) rfl (heap_alloc_new _ _) ⟨rfl,g1,g2⟩ (by omega) (by omega) (by have:=HB.out.size;simp;omega) ?_)
   intro A2 c2 w2 hown2 hg2 _;go_wp2
   go_roundw
   case rel=>
    have hb:=HB.out;refine⟨k+1,A2,c2,by omega,by go_num,rfl,?_,?_⟩
    ·rw[zd (d:=default) (by have:=HL.out;omega)];exact hown2
    exact(hb.alloc (by have:=hb.size;omega) _).grown hg2 (by have:=hb.size;simp;omega) (fun k hk=>(hown.lt k hk).1)
   case measure=>simp[intOf];omega
  go_wp2
  go_ret
  obtain rfl:k=n:=by omega
  have e1:=HL.out;subst e1;rw[List.take_length] at hown;exact⟨A',c',rfl,hown,hb⟩
theorem zs {tg:Bool}{T:TypeId}{S:Nat→Prop}{w:World}{A:Option Addr}{n c:Nat}{xs:List Tag}(h:Sl tg T Bv w S A n c xs) (hn:n≤100000000):
  Calls Tryz.prog 59 #[.slice A n c] w (qF 94 Bv w xs):=by
 obtain⟨i0,hi,hz0,hz1,hz2⟩:=info_parts Tryz.BX;have hl:=h.len;have HL:=zh hl
 go_enter Tryz.func59,Tryz.ntmps59
 clear hl;go_wp2
 go_loopw [3,4] (fun v i wr=>∃k:Nat,∃A' c',k≤n∧i=.int .i64 k∧v=.slice A' k c'∧Bo 94 Bv wr w.heap.size (fun b=>w.heap.size≤b) A' k c' (xs.take k)∧Below w.heap.size w wr) (fun _ i _=>n - (intOf i).toNat)
 case atStart=>exact⟨0,none,0,Nat.zero_le _,rfl,rfl,by simpa using Bo.Bz,Below.refl _ _⟩
 case round=>
  obtain⟨k,A',c',hk,rfl,rfl,hown,hb⟩:=hrel;by_cases hlt:k<n
  ·obtain⟨b,off,rfl,hS,hbl,g1,g2,hc0,hc1,_,_⟩:=(h.all hb).Cc hlt;have HB:=zh hb;clear hb;go_wp2_with (at_builtin;refine qs rfl _ _ 26 rfl i0 (.agg #[.string ByteArray.empty,.string ByteArray.empty]) 32 Tryz.underlying26 hi hz0 hz1 hz2 rfl (by decide) rfl (hown.frame (Agree.alloc _ _ _) (by simp)) wr.heap.size 94 1 _ (xs.getD k default) rfl (heap_alloc_new _ _) ⟨rfl,g1,g2⟩ (by omega) (by omega) (by have:=HB.out.size;simp;omega) ?_)
   intro A2 c2 w2 hown2 hg2 _;go_wp2
   go_roundw
   case rel=>
    have hb:=HB.out;refine⟨k+1,A2,c2,by omega,by go_num,rfl,?_,?_⟩
    ·rw[zd (d:=default) (by have:=HL.out;omega)];exact hown2
    exact(hb.alloc (by have:=hb.size;omega) _).grown hg2 (by have:=hb.size;simp;omega) (fun k hk=>(hown.lt k hk).1)
   case measure=>simp[intOf];omega
  go_wp2
  go_ret
  obtain rfl:k=n:=by omega
  have e1:=HL.out;subst e1;rw[List.take_length] at hown;exact⟨A',c',rfl,hown,hb⟩
theorem kz {tg tg':Bool}{T T':TypeId}{S S':Nat→Prop}{w:World}{A A':Option Addr}{n c n' c':Nat}{xs ys:List Int}(h:Sl tg T qD w S A n c xs) (h':Sl tg' T' qD w S' A' n' c' ys):
  Calls Tryz.prog 26 #[.slice A n c,.slice A' n' c'] w (Bf (.bool (decide (xs=ys))) w):=by
 have HL:=zh h.len;have uM:=zh h'.len;have hcap:n≤9223372036854775807:=Nat.le_trans h.le h.cap;by_cases hne:n=n'
 ·subst hne
  go_enter Tryz.func26,Tryz.ntmps26
  go_wp2
  go_loopw [5] (fun i wr=>∃k q:Nat,k≤n∧i=.int .i64 k∧wr=w.drewN q∧Hid (xs.take k=ys.take k)) (fun i _=>n - (intOf i).toNat)
  case atStart=>exact⟨0,0,Nat.zero_le _,rfl,rfl,zh (by simp)⟩
  case round=>
   obtain⟨k,q,hk,rfl,rfl,he⟩:=hrel;by_cases hlt:k<n
   ·obtain⟨b,off,rfl,hS,hbl,g1,hc0,_⟩:=h.BN hlt;obtain⟨b',off',rfl,hS',hbl',g1',hc0',_⟩:=h'.BN hlt;generalize hx:xs.getD k 0=x at *;generalize hy:ys.getD k 0=y at *;have HX:=zh hx;clear hx;have HY:=zh hy;clear hy;by_cases hxy:x=y
    ·subst hxy
     skip
     go_wp2
     go_quiet (fail)
     go_wp2
     go_roundw
     case rel=>exact⟨k+1,_,by omega,by go_num,rfl,zh (xb he.out (by rw[HL.out];exact hlt) (by rw[uM.out];exact hlt) (HX.out.trans HY.out.symm))⟩
     case measure=>simp[intOf];omega
    have hxy':(x !=y)=true:=(by simpa using hxy);have HF:Hid (xs≠ys):=zh (fun e=>by subst e;exact hxy (HX.out.symm.trans HY.out));clear hxy;go_wp2
    go_quiet (fail)
    go_wp2
    go_ret
    exact⟨by rw[decide_eq_false HF.out];rfl,(below_drewN (below_drewN (Below.refl _ _) _) _)⟩
   go_wp2
   go_ret
   obtain rfl:k=n:=by omega
   have e:=he.out;rw[List.take_of_length_le (by rw[HL.out];exact Nat.le_refl _),List.take_of_length_le (by rw[uM.out];exact Nat.le_refl _)] at e;exact⟨by rw[decide_eq_true e];rfl,(below_drewN (Below.refl _ _) _)⟩
 have Hc:((n:Int) !=(n':Int))=true:=by simp;omega
 have HF:Hid (xs≠ys):=zh (fun e=>by subst e;exact hne (HL.out.symm.trans uM.out))
 go_enter Tryz.func26,Tryz.ntmps26
 go_wp2
 go_ret
 exact⟨by rw[decide_eq_false HF.out];rfl,Below.refl _ _⟩
theorem jT {tg tg':Bool}{T T':TypeId}{S S':Nat→Prop}{w:World}{A A':Option Addr}{n c n' c':Nat}{xs ys:List Slot}(h:Sl tg T qp w S A n c xs) (h':Sl tg' T' qp w S' A' n' c' ys):
  Calls Tryz.prog 69 #[.slice A n c,.slice A' n' c'] w (Bf (.bool (decide (xs=ys))) w):=by
 have HL:=zh h.len;have uM:=zh h'.len;have hcap:n≤9223372036854775807:=Nat.le_trans h.le h.cap;by_cases hne:n=n'
 ·subst hne
  go_enter Tryz.func69,Tryz.ntmps69
  go_wp2
  go_loopw [5] (fun i wr=>∃k q:Nat,k≤n∧i=.int .i64 k∧wr=w.drewN q∧Hid (xs.take k=ys.take k)) (fun i _=>n - (intOf i).toNat)
  case atStart=>exact⟨0,0,Nat.zero_le _,rfl,rfl,zh (by simp)⟩
  case round=>
   obtain⟨k,q,hk,rfl,rfl,he⟩:=hrel;by_cases hlt:k<n
   ·obtain⟨b,off,rfl,hS,hbl,g1,g2,hc0,hc1,_,_⟩:=h.BA hlt;obtain⟨b',off',rfl,hS',hbl',g1',g2',hc0',hc1',_,_⟩:=h'.BA hlt;generalize hx:xs.getD k default=x at *;generalize hy:ys.getD k default=y at *;have HX:=zh hx;clear hx;have HY:=zh hy;clear hy;by_cases hxy:x=y
    ·subst hxy;have hq:∀W:World,(Op.equalIn 10000 88 (.agg #[.int .i64 x.disk,.int .i64 x.pos]) (.agg #[.int .i64 x.disk,.int .i64 x.pos])).run Tryz.prog W=.ok true W:=fun W=>by rw[jR];simp
     have hqg:=jS;go_wp2
     go_quiet (fail)
     go_wp2
     go_roundw
     case rel=>exact⟨k+1,_,by omega,by go_num,rfl,zh (xb he.out (by rw[HL.out];exact hlt) (by rw[uM.out];exact hlt) (HX.out.trans HY.out.symm))⟩
     case measure=>simp[intOf];omega
    have hq:∀W:World,(Op.equalIn 10000 88 (.agg #[.int .i64 x.disk,.int .i64 x.pos]) (.agg #[.int .i64 y.disk,.int .i64 y.pos])).run Tryz.prog W=.ok false W:=fun W=>by rw[jR,decide_eq_false hxy]
    have hqg:=jS;have HF:Hid (xs≠ys):=zh (fun e=>by subst e;exact hxy (HX.out.symm.trans HY.out));clear hxy;go_wp2
    go_quiet (fail)
    go_wp2
    go_ret
    exact⟨by rw[decide_eq_false HF.out];rfl,(below_drewN (below_drewN (Below.refl _ _) _) _)⟩
   go_wp2
   go_ret
   obtain rfl:k=n:=by omega
   have e:=he.out;rw[List.take_of_length_le (by rw[HL.out];exact Nat.le_refl _),List.take_of_length_le (by rw[uM.out];exact Nat.le_refl _)] at e;exact⟨by rw[decide_eq_true e];rfl,(below_drewN (Below.refl _ _) _)⟩
 have Hc:((n:Int) !=(n':Int))=true:=by simp;omega
 have HF:Hid (xs≠ys):=zh (fun e=>by subst e;exact hne (HL.out.symm.trans uM.out))
 go_enter Tryz.func69,Tryz.ntmps69
 go_wp2
 go_ret
 exact⟨by rw[decide_eq_false HF.out];rfl,Below.refl _ _⟩
theorem JI {tg tg':Bool}{T T':TypeId}{S S':Nat→Prop}{w:World}{A A':Option Addr}{n c n' c':Nat}{xs ys:List Tag}(h:Sl tg T Bv w S A n c xs) (h':Sl tg' T' Bv w S' A' n' c' ys):
  Calls Tryz.prog 68 #[.slice A n c,.slice A' n' c'] w (Bf (.bool (decide (xs=ys))) w):=by
 have HL:=zh h.len;have uM:=zh h'.len;have hcap:n≤9223372036854775807:=Nat.le_trans h.le h.cap;by_cases hne:n=n'
 ·subst hne
  go_enter Tryz.func68,Tryz.ntmps68
  go_wp2
  go_loopw [5] (fun i wr=>∃k q:Nat,k≤n∧i=.int .i64 k∧wr=w.drewN q∧Hid (xs.take k=ys.take k)) (fun i _=>n - (intOf i).toNat)
  case atStart=>exact⟨0,0,Nat.zero_le _,rfl,rfl,zh (by simp)⟩
  case round=>
   obtain⟨k,q,hk,rfl,rfl,he⟩:=hrel;by_cases hlt:k<n
   ·obtain⟨b,off,rfl,hS,hbl,g1,g2,hc0,hc1,_,_⟩:=h.Cc hlt;obtain⟨b',off',rfl,hS',hbl',g1',g2',hc0',hc1',_,_⟩:=h'.Cc hlt;generalize hx:xs.getD k default=x at *;generalize hy:ys.getD k default=y at *;have HX:=zh hx;clear hx;have HY:=zh hy;clear hy;by_cases hxy:x=y
    ·subst hxy;have hq:∀W:World,(Op.equalIn 10000 94 (.agg #[.string x.name,.string x.digest]) (.agg #[.string x.name,.string x.digest])).run Tryz.prog W=.ok true W:=fun W=>by rw[XF];simp
     have hqg:=XG;go_wp2
     go_quiet (fail)
     go_wp2
     go_roundw
     case rel=>exact⟨k+1,_,by omega,by go_num,rfl,zh (xb he.out (by rw[HL.out];exact hlt) (by rw[uM.out];exact hlt) (HX.out.trans HY.out.symm))⟩
     case measure=>simp[intOf];omega
    have hq:∀W:World,(Op.equalIn 10000 94 (.agg #[.string x.name,.string x.digest]) (.agg #[.string y.name,.string y.digest])).run Tryz.prog W=.ok false W:=fun W=>by rw[XF,decide_eq_false hxy]
    have hqg:=XG;have HF:Hid (xs≠ys):=zh (fun e=>by subst e;exact hxy (HX.out.symm.trans HY.out));clear hxy;go_wp2
    go_quiet (fail)
    go_wp2
    go_ret
    exact⟨by rw[decide_eq_false HF.out];rfl,(below_drewN (below_drewN (Below.refl _ _) _) _)⟩
   go_wp2
   go_ret
   obtain rfl:k=n:=by omega
   have e:=he.out;rw[List.take_of_length_le (by rw[HL.out];exact Nat.le_refl _),List.take_of_length_le (by rw[uM.out];exact Nat.le_refl _)] at e;exact⟨by rw[decide_eq_true e];rfl,(below_drewN (Below.refl _ _) _)⟩
 have Hc:((n:Int) !=(n':Int))=true:=by simp;omega
 have HF:Hid (xs≠ys):=zh (fun e=>by subst e;exact hne (HL.out.symm.trans uM.out))
 go_enter Tryz.func68,Tryz.ntmps68
 go_wp2
 go_ret
 exact⟨by rw[decide_eq_false HF.out];rfl,Below.refl _ _⟩
end Go.Proofs.YtipecejghioicaaGreat
set_option maxHeartbeats 1000000
namespace Go.Proofs.YtipecejghioicaaGreat
open Go.RowKit Go.Silo
theorem kX {tg tg':Bool}{T T':TypeId}{S S':Nat→Prop}{w:World}{A A':Option Addr}{n c n' c':Nat}{x y:Bc}(h:Sl tg T qp w S A n c x.place) (h':Sl tg' T' qp w S' A' n' c' y.place):
  Calls Tryz.prog 106 #[.agg #[.int .i64 x.id,.int .i64 x.len,.int .i64 x.gen,.slice A n c],.agg #[.int .i64 y.id,.int .i64 y.len,.int .i64 y.gen,.slice A' n' c']] w (Bf (.bool (decide (x=y))) w):=by
 obtain⟨xi,xl,xg,xp⟩:=x;obtain⟨yi,yl,yg,yp⟩:=y;simp only at h h'⊢;rw[show decide ((⟨xi,xl,xg,xp⟩:Bc)=⟨yi,yl,yg,yp⟩)=decide (xi=yi∧xl=yl∧xg=yg∧xp=yp) from decide_eq_decide.2 Bc.Br];generalize hr:decide (xi=yi∧xl=yl∧xg=yg∧xp=yp)=r;have HR:=zh hr;clear hr
 go_enter Tryz.func106,Tryz.ntmps106
 go_wp2_with fail
 ·refine(jT (h.all bz) (h'.all bz)).mono ?_;rintro e w1 ⟨rfl,hb⟩;go_wp2
  go_ret
  exact⟨by rw[←HR.out];simp[*],bz⟩
 all_goals
  go_ret
  exact⟨by rw[←HR.out];simp[*],bz⟩
theorem QU {tg:Bool}{T:TypeId}{S:Nat→Prop}{w:World}{A:Option Addr}{n c:Nat}{x:Bc}(hok:Bn x.id∧Bn x.len∧Bn x.gen) (h:Sl tg T qp w S A n c x.place) (hn:n≤100000000):
  Calls Tryz.prog 85 #[.agg #[.int .i64 x.id,.int .i64 x.len,.int .i64 x.gen,.slice A n c]] w (XQ (qc true) w x):=by
 go_enter Tryz.func85,Tryz.ntmps85
 go_wp2_with fail
 refine(xF (h.all bz) hn).mono ?_;rintro e w1 ⟨A3,c3,rfl,hown3,hb3⟩;obtain⟨hc,hf⟩:=ql hb3;have hs3:=hb3.size;simp only[World.size_alloc] at hs3;go_wp2_with fail
 refine bodyPost_ret (v:=.agg #[.int .i64 x.id,.int .i64 x.len,.int .i64 x.gen,.slice A3 x.place.length c3]) (by simp[results,Tryz.results85,go_sem,hc];done) rfl ?_;have hr:=(hown3.sl (tg:=true)).mono (S':=fun b=>w.heap.size+3≤b) (fun b hb _=>by simp at hb;omega);exact⟨_,rfl,⟨_,_,_,rfl,hok,(hr.keep (by repeat' (first|(with_reducible exact Bg.refl _ _)|(with_reducible refine Bg.alloc ?_ _)|(with_reducible refine Bg.drew ?_)|(with_reducible refine Bg.drewN ?_ _)|(with_reducible refine Bg.setCell ?_ ?_ _)|(refine Bg.call ?_ (by with_reducible assumption))|(with_reducible refine Bg.ext ?_ _)|(simp;done)|(simp;omega)|omega))).mono (fun b hb _=>by omega)⟩,bz⟩
theorem Zt {tg tg' tg1 tg1':Bool}{T T':TypeId}{S S':Nat→Prop}{w:World}{A A':Option Addr}{n c n' c':Nat}{xs ys:List (Bc)}(h:Sl tg T (qc tg1) w S A n c xs) (h':Sl tg' T' (qc tg1') w S' A' n' c' ys):
  Calls Tryz.prog 66 #[.slice A n c,.slice A' n' c'] w (Bf (.bool (decide (xs=ys))) w):=by
 have HL:=zh h.len;have uM:=zh h'.len;have hcap:n≤9223372036854775807:=Nat.le_trans h.le h.cap;by_cases hne:n=n'
 ·subst hne
  go_enter Tryz.func66,Tryz.ntmps66
  go_wp2
  go_loopw [5] (fun i wr=>∃k:Nat,k≤n∧i=.int .i64 k∧Below w.heap.size w wr∧Hid (xs.take k=ys.take k)) (fun i _=>n - (intOf i).toNat)
  case atStart=>exact⟨0,Nat.zero_le _,rfl,Below.refl _ _,zh (by simp)⟩
  case round=>
   obtain⟨k,hk,rfl,hB,he⟩:=hrel;by_cases hlt:k<n
   ·obtain⟨b,off,A1,n1,c1,rfl,hS,hbl,g1,g2,g3,h1,hc0,hc1,hc2,hc3,_,_,_,_⟩:=(h.all hB).Bu hlt;obtain⟨b',off',A1',n1',c1',rfl,hS',hbl',g1',g2',g3',h1',hc0',hc1',hc2',hc3',_,_,_,_⟩:=(h'.all hB).Bu hlt;generalize hx:xs.getD k default=x at *;generalize hy:ys.getD k default=y at *;have HX:=zh hx;clear hx;have HY:=zh hy;clear hy;have HB:=zh hB;clear hB;have pG:=xa wr;by_cases hxy:x=y
    ·have hc:=fun X=>(kX (h1.all bz) (h1'.all bz):Calls _ _ _ (wr.ext X) _)
     rw[decide_eq_true hxy] at hc;have HC:=zh hc;clear hc;have HXY:=zh hxy;clear hxy;go_wp2
     refine zr (by kernel_rfl) (by kernel_rfl) ?_
     repeat (go_big_quiet_step ((go_at_call 106;exact Bf.ext (HC.out _))))
     refine wpQuiet_nil ?_;rintro _ ⟨X,rfl⟩;go_wp2
     go_roundw
     case rel=>
      have hB:=HB.out;exact⟨k+1,by omega,by go_num,bz,zh (xb he.out (by rw[HL.out];exact hlt) (by rw[uM.out];exact hlt) (HX.out.trans (HXY.out.trans HY.out.symm)))⟩
     case measure=>simp[intOf];omega
    have hc:=fun X=>(kX (h1.all bz) (h1'.all bz):Calls _ _ _ (wr.ext X) _)
    rw[decide_eq_false hxy] at hc;have HC:=zh hc;clear hc;have HF:Hid (xs≠ys):=zh (fun e=>by subst e;exact hxy (HX.out.symm.trans HY.out));clear hxy;go_wp2
    refine zr (by kernel_rfl) (by kernel_rfl) ?_
    repeat (go_big_quiet_step ((go_at_call 106;exact Bf.ext (HC.out _))))
    refine wpQuiet_nil ?_;rintro _ ⟨X,rfl⟩;go_wp2
    go_ret
    have hB:=HB.out;exact⟨by rw[decide_eq_false HF.out];rfl,bz⟩
   go_wp2
   go_ret
   obtain rfl:k=n:=by omega
   have e:=he.out;rw[List.take_of_length_le (by rw[HL.out];exact Nat.le_refl _),List.take_of_length_le (by rw[uM.out];exact Nat.le_refl _)] at e;exact⟨by rw[decide_eq_true e];rfl,hB⟩
 have Hc:((n:Int) !=(n':Int))=true:=by simp;omega
 have HF:Hid (xs≠ys):=zh (fun e=>by subst e;exact hne (HL.out.symm.trans uM.out))
 go_enter Tryz.func66,Tryz.ntmps66
 go_wp2
 go_ret
 exact⟨by rw[decide_eq_false HF.out];rfl,Below.refl _ _⟩
end Go.Proofs.YtipecejghioicaaGreat
set_option maxHeartbeats 1000000
namespace Go.Proofs.YtipecejghioicaaGreat
open Go.RowKit Go.Silo
theorem QK {tg tg':Bool}{T T':TypeId}{S S':Nat→Prop}{w:World}{A A':Option Addr}{n c n' c':Nat}{x y:Entry}(h:Sl tg T qD w S A n c x.list) (h':Sl tg' T' qD w S' A' n' c' y.list):
  Calls Tryz.prog 107 #[.agg #[.string x.digest,.int .i64 x.len,.bool x.BO,.slice A n c],.agg #[.string y.digest,.int .i64 y.len,.bool y.BO,.slice A' n' c']] w (Bf (.bool (decide (x=y))) w):=by
 obtain⟨xi,xl,xg,xp⟩:=x;obtain⟨yi,yl,yg,yp⟩:=y;simp only at h h'⊢;rw[show decide ((⟨xi,xl,xg,xp⟩:Entry)=⟨yi,yl,yg,yp⟩)=decide (xi=yi∧xl=yl∧xg=yg∧xp=yp) from decide_eq_decide.2 Entry.Br];generalize hr:decide (xi=yi∧xl=yl∧xg=yg∧xp=yp)=r;have HR:=zh hr;clear hr
 go_enter Tryz.func107,Tryz.ntmps107
 go_wp2_with (go_at_call 26;refine(kz (h.all bz) (h'.all bz)).mono ?_;rintro e w1 ⟨rfl,hb1⟩)
 all_goals
  go_ret
  exact⟨by rw[←HR.out];simp_all [toList_inj],bz⟩
theorem Zu {tg:Bool}{T:TypeId}{S:Nat→Prop}{w:World}{A:Option Addr}{n c:Nat}{x:Entry}(hok:qN x.digest∧Bn x.len) (h:Sl tg T qD w S A n c x.list) (hn:n≤100000000):
  Calls Tryz.prog 86 #[.agg #[.string x.digest,.int .i64 x.len,.bool x.BO,.slice A n c]] w (XQ (qj true) w x):=by
 go_enter Tryz.func86,Tryz.ntmps86
 go_wp2_with fail
 refine(xU (h.all bz) hn).mono ?_;rintro e w1 ⟨A3,c3,rfl,hown3,hb3⟩;obtain⟨hc,hf⟩:=ql hb3;have hs3:=hb3.size;simp only[World.size_alloc] at hs3;go_wp2_with fail
 refine bodyPost_ret (v:=.agg #[.string x.digest,.int .i64 x.len,.bool x.BO,.slice A3 x.list.length c3]) (by simp[results,Tryz.results86,go_sem,hc];done) rfl ?_;have hr:=(hown3.sl (tg:=true)).mono (S':=fun b=>w.heap.size+3≤b) (fun b hb _=>by simp at hb;omega);exact⟨_,rfl,⟨_,_,_,rfl,hok,(hr.keep (by repeat' (first|(with_reducible exact Bg.refl _ _)|(with_reducible refine Bg.alloc ?_ _)|(with_reducible refine Bg.drew ?_)|(with_reducible refine Bg.drewN ?_ _)|(with_reducible refine Bg.setCell ?_ ?_ _)|(refine Bg.call ?_ (by with_reducible assumption))|(with_reducible refine Bg.ext ?_ _)|(simp;done)|(simp;omega)|omega))).mono (fun b hb _=>by omega)⟩,bz⟩
theorem Zv {tg tg' tg1 tg1':Bool}{T T':TypeId}{S S':Nat→Prop}{w:World}{A A':Option Addr}{n c n' c':Nat}{xs ys:List (Entry)}(h:Sl tg T (qj tg1) w S A n c xs) (h':Sl tg' T' (qj tg1') w S' A' n' c' ys):
  Calls Tryz.prog 67 #[.slice A n c,.slice A' n' c'] w (Bf (.bool (decide (xs=ys))) w):=by
 have HL:=zh h.len;have uM:=zh h'.len;have hcap:n≤9223372036854775807:=Nat.le_trans h.le h.cap;by_cases hne:n=n'
 ·subst hne
  go_enter Tryz.func67,Tryz.ntmps67
  go_wp2
  go_loopw [5] (fun i wr=>∃k:Nat,k≤n∧i=.int .i64 k∧Below w.heap.size w wr∧Hid (xs.take k=ys.take k)) (fun i _=>n - (intOf i).toNat)
  case atStart=>exact⟨0,Nat.zero_le _,rfl,Below.refl _ _,zh (by simp)⟩
  case round=>
   obtain⟨k,hk,rfl,hB,he⟩:=hrel;by_cases hlt:k<n
   ·obtain⟨b,off,A1,n1,c1,rfl,hS,hbl,g1,g2,h1,hc0,hc1,hc2,hc3,_,_,_,_⟩:=(h.all hB).BP hlt;obtain⟨b',off',A1',n1',c1',rfl,hS',hbl',g1',g2',h1',hc0',hc1',hc2',hc3',_,_,_,_⟩:=(h'.all hB).BP hlt;generalize hx:xs.getD k default=x at *;generalize hy:ys.getD k default=y at *;have HX:=zh hx;clear hx;have HY:=zh hy;clear hy;have HB:=zh hB;clear hB;have pG:=xa wr;by_cases hxy:x=y
    ·have hc:=fun X=>(QK (h1.all bz) (h1'.all bz):Calls _ _ _ (wr.ext X) _)
     rw[decide_eq_true hxy] at hc;have HC:=zh hc;clear hc;have HXY:=zh hxy;clear hxy;go_wp2
     refine zr (by kernel_rfl) (by kernel_rfl) ?_
     repeat (go_big_quiet_step ((go_at_call 107;exact Bf.ext (HC.out _))))
     refine wpQuiet_nil ?_;rintro _ ⟨X,rfl⟩;go_wp2
     go_roundw
     case rel=>
      have hB:=HB.out;exact⟨k+1,by omega,by go_num,bz,zh (xb he.out (by rw[HL.out];exact hlt) (by rw[uM.out];exact hlt) (HX.out.trans (HXY.out.trans HY.out.symm)))⟩
     case measure=>simp[intOf];omega
    have hc:=fun X=>(QK (h1.all bz) (h1'.all bz):Calls _ _ _ (wr.ext X) _)
    rw[decide_eq_false hxy] at hc;have HC:=zh hc;clear hc;have HF:Hid (xs≠ys):=zh (fun e=>by subst e;exact hxy (HX.out.symm.trans HY.out));clear hxy;go_wp2
    refine zr (by kernel_rfl) (by kernel_rfl) ?_
    repeat (go_big_quiet_step ((go_at_call 107;exact Bf.ext (HC.out _))))
    refine wpQuiet_nil ?_;rintro _ ⟨X,rfl⟩;go_wp2
    go_ret
    have hB:=HB.out;exact⟨by rw[decide_eq_false HF.out];rfl,bz⟩
   go_wp2
   go_ret
   obtain rfl:k=n:=by omega
   have e:=he.out;rw[List.take_of_length_le (by rw[HL.out];exact Nat.le_refl _),List.take_of_length_le (by rw[uM.out];exact Nat.le_refl _)] at e;exact⟨by rw[decide_eq_true e];rfl,hB⟩
 have Hc:((n:Int) !=(n':Int))=true:=by simp;omega
 have HF:Hid (xs≠ys):=zh (fun e=>by subst e;exact hne (HL.out.symm.trans uM.out))
 go_enter Tryz.func67,Tryz.ntmps67
 go_wp2
 go_ret
 exact⟨by rw[decide_eq_false HF.out];rfl,Below.refl _ _⟩
theorem Tryz.BV:(Tryz.prog.info? 86).map (fun i=>(i.zero,i.size,i.bytes))=some (some (.agg #[.int .i64 0,.int .i64 0,.int .i64 0,.slice none 0 0]),4,48):=by kernel_rfl
theorem zW {tg tg1:Bool}{T:TypeId}{S:Nat→Prop}{w:World}{A:Option Addr}{n c:Nat}{xs:List (Bc)}(h:Sl tg T (qc tg1) w S A n c xs) (hn:n≤100000000) (hx:∀x∈xs,x.place.length≤100000000):
  Calls Tryz.prog 57 #[.slice A n c] w (qF 86 (qc true) w xs):=by
 obtain⟨i0,hi,hz0,hz1,hz2⟩:=info_parts Tryz.BV;have hl:=h.len;have HL:=zh hl;have HX:=zh hx;clear hx
 go_enter Tryz.func57,Tryz.ntmps57
 clear hl;go_wp2
 go_loopw [3,4] (fun v i wr=>∃k:Nat,∃A' c',k≤n∧i=.int .i64 k∧v=.slice A' k c'∧Bo 86 (qc true) wr w.heap.size (fun b=>w.heap.size≤b) A' k c' (xs.take k)∧Below w.heap.size w wr) (fun _ i _=>n - (intOf i).toNat)
 case atStart=>exact⟨0,none,0,Nat.zero_le _,rfl,rfl,by simpa using Bo.Bz,Below.refl _ _⟩
 case round=>
  obtain⟨k,A',c',hk,rfl,rfl,hown,hb⟩:=hrel;by_cases hlt:k<n
  ·have hlx:=HX.out (xs.getD k default) (by rw[List.getD_eq_getElem?_getD,List.getElem?_eq_getElem (by have:=HL.out;omega)];exact List.getElem_mem _);obtain⟨b,off,A1,n1,c1,rfl,hS,hbl,g1,g2,g3,h1,hc0,hc1,hc2,hc3,_,_,_,_⟩:=(h.all hb).Bu hlt;generalize hx:xs.getD k default=x at *;have HXK:=zh hx;clear hx;have HB:=zh hb;clear hb;go_wp2_with fail
   refine(QU ⟨g1,g2,g3⟩ h1 (by first|omega|(have:=h1.len;omega))).mono ?_;rintro e w2 ⟨_,rfl,⟨A3,n3,c3,rfl,hok3,h3⟩,hb3⟩;have vt:=hown.all hb3;have hs3:=hb3.size;have ho3:=hown.above (fun b hb=>Nat.le_trans HB.out.size hb);go_wp2_with (at_builtin;refine qs rfl _ _ 24 rfl i0 (.agg #[.int .i64 0,.int .i64 0,.int .i64 0,.slice none 0 0]) 48 Tryz.underlying24 hi hz0 hz1 hz2 rfl (by decide) rfl (vt.frame (Agree.alloc _ _ _) (by simp)) w2.heap.size 86 1 _ x rfl (heap_alloc_new _ _) ⟨_,_,_,rfl,hok3,((h3.mono (fun b hb _=>ho3 b hb)).all bz)⟩ (by omega) (by omega) (by have:=HB.out.size;simp;omega) ?_)
   intro A2 c2 w3 hown2 hg2 _;go_wp2
   go_roundw
   case rel=>
    have hb:=HB.out;refine⟨k+1,A2,c2,by omega,by go_num,rfl,?_,?_⟩
    ·rw[zd (d:=default) (by have:=HL.out;omega),HXK.out];exact hown2
    exact((via hb hb3 (Nat.le_refl _)).alloc (by have:=hb.size;omega) _).grown hg2 (by have:=hb.size;simp;omega) (fun k hk=>(vt.lt k hk).1)
   case measure=>simp[intOf];omega
  go_wp2
  go_ret
  obtain rfl:k=n:=by omega
  have e1:=HL.out;subst e1;rw[List.take_length] at hown;exact⟨A',c',rfl,hown,hb⟩
theorem Tryz.Bt:(Tryz.prog.info? 90).map (fun i=>(i.zero,i.size,i.bytes))=some (some (.agg #[.string ByteArray.empty,.int .i64 0,.bool false,.slice none 0 0]),4,56):=by kernel_rfl
theorem qC {tg tg1:Bool}{T:TypeId}{S:Nat→Prop}{w:World}{A:Option Addr}{n c:Nat}{xs:List (Entry)}(h:Sl tg T (qj tg1) w S A n c xs) (hn:n≤100000000) (hx:∀x∈xs,x.list.length≤100000000):
  Calls Tryz.prog 58 #[.slice A n c] w (qF 90 (qj true) w xs):=by
 obtain⟨i0,hi,hz0,hz1,hz2⟩:=info_parts Tryz.Bt;have hl:=h.len;have HL:=zh hl;have HX:=zh hx;clear hx
 go_enter Tryz.func58,Tryz.ntmps58
 clear hl;go_wp2
 go_loopw [3,4] (fun v i wr=>∃k:Nat,∃A' c',k≤n∧i=.int .i64 k∧v=.slice A' k c'∧Bo 90 (qj true) wr w.heap.size (fun b=>w.heap.size≤b) A' k c' (xs.take k)∧Below w.heap.size w wr) (fun _ i _=>n - (intOf i).toNat)
 case atStart=>exact⟨0,none,0,Nat.zero_le _,rfl,rfl,by simpa using Bo.Bz,Below.refl _ _⟩
 case round=>
  obtain⟨k,A',c',hk,rfl,rfl,hown,hb⟩:=hrel;by_cases hlt:k<n
  ·have hlx:=HX.out (xs.getD k default) (by rw[List.getD_eq_getElem?_getD,List.getElem?_eq_getElem (by have:=HL.out;omega)];exact List.getElem_mem _);obtain⟨b,off,A1,n1,c1,rfl,hS,hbl,g1,g2,h1,hc0,hc1,hc2,hc3,_,_,_,_⟩:=(h.all hb).BP hlt;generalize hx:xs.getD k default=x at *;have HXK:=zh hx;clear hx;have HB:=zh hb;clear hb;go_wp2_with fail
   refine(Zu ⟨g1,g2⟩ h1 (by first|omega|(have:=h1.len;omega))).mono ?_;rintro e w2 ⟨_,rfl,⟨A3,n3,c3,rfl,hok3,h3⟩,hb3⟩;have vt:=hown.all hb3;have hs3:=hb3.size;have ho3:=hown.above (fun b hb=>Nat.le_trans HB.out.size hb);go_wp2_with (at_builtin;refine qs rfl _ _ 25 rfl i0 (.agg #[.string ByteArray.empty,.int .i64 0,.bool false,.slice none 0 0]) 56 Tryz.underlying25 hi hz0 hz1 hz2 rfl (by decide) rfl (vt.frame (Agree.alloc _ _ _) (by simp)) w2.heap.size 90 1 _ x rfl (heap_alloc_new _ _) ⟨_,_,_,rfl,hok3,((h3.mono (fun b hb _=>ho3 b hb)).all bz)⟩ (by omega) (by omega) (by have:=HB.out.size;simp;omega) ?_)
   intro A2 c2 w3 hown2 hg2 _;go_wp2
   go_roundw
   case rel=>
    have hb:=HB.out;refine⟨k+1,A2,c2,by omega,by go_num,rfl,?_,?_⟩
    ·rw[zd (d:=default) (by have:=HL.out;omega),HXK.out];exact hown2
    exact((via hb hb3 (Nat.le_refl _)).alloc (by have:=hb.size;omega) _).grown hg2 (by have:=hb.size;simp;omega) (fun k hk=>(vt.lt k hk).1)
   case measure=>simp[intOf];omega
  go_wp2
  go_ret
  obtain rfl:k=n:=by omega
  have e1:=HL.out;subst e1;rw[List.take_length] at hown;exact⟨A',c',rfl,hown,hb⟩
end Go.Proofs.YtipecejghioicaaGreat
