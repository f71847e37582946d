/- Which slots may be: the program's answer and the page's are one. -/
import Derived.Test.YtipecejghioicaaGreatProg
import Derived.Test.YtipecejghioicaaGreatDatas
import Derived.Outline
import Derived.BigQuiet
import Derived.Deep.QuietTactic
import Derived.WalkSpells
import Derived.Laws.StructEq
import Derived.Test.YtipecejghioicaaGreatP0s
set_option maxHeartbeats 400000
namespace Go.Proofs.YtipecejghioicaaGreat
open Go.RowKit Go.Silo
theorem xL {β:Type}{xs ys:List β}{k:Nat}{d:β}(h:xs.take k=ys.take k) (h1:k<xs.length) (h2:k<ys.length) (he:xs.getD k d=ys.getD k d):xs.take (k+1)=ys.take (k+1):=by
 rw[qA (d:=d) h1,qA (d:=d) h2,h,he]
theorem toList_inj {a b:ByteArray}:a.toList=b.toList↔a=b:=⟨fun h=>by
 rw[ByteArray.toList_eq,ByteArray.toList_eq] at h;obtain⟨⟨x⟩⟩:=a;obtain⟨⟨y⟩⟩:=b;have:x=y:=h
 subst this;rfl,fun h=>by rw[h]⟩
theorem Tryz.BZ:(Tryz.prog.info? 3).map (fun i=>(i.zero,i.size,i.bytes))=some (some (.int .i64 0),1,8):=by kernel_rfl
theorem Tryz.Cn:(Tryz.prog.info? 4).map (fun i=>(i.zero,i.size,i.bytes))=some (some (.bool false),1,1):=by kernel_rfl
theorem Tryz.CP:(Tryz.prog.info? 88).map (fun i=>(i.zero,i.size,i.bytes))=some (some (.agg #[.int .i64 0,.int .i64 0]),2,16):=by kernel_rfl
theorem Tryz.CB:(Tryz.prog.info? 94).map (fun i=>(i.zero,i.size,i.bytes))=some (some (.agg #[.string ByteArray.empty,.string ByteArray.empty]),2,32):=by kernel_rfl
theorem Zs (x y:Slot) (W:World):(Op.equalIn 10000 88 (.agg #[.int .i64 x.disk,.int .i64 x.pos]) (.agg #[.int .i64 y.disk,.int .i64 y.pos])).run Tryz.prog W=.ok (decide (x=y)) W:=by
 have hs:Tryz.prog.stoodInHeld 88=false:=by kernel_rfl
 have hf:Tryz.prog.underlying 88=some (.struct (Tryz.prog.fieldsOf 88)):=by kernel_rfl
 rw[run_equalIn_struct W 9999 88 _ _ hf hs];rw[show decide (x=y)=decide (x.disk=y.disk∧x.pos=y.pos) from decide_eq_decide.2 Slot.Bl];simp[go_sem,Tryz.underlying88,Tryz.underlying3];by_cases h:x.disk=y.disk<;>by_cases h2:x.pos=y.pos<;>simp[h,h2]
theorem Zt:Tryz.prog.eqGuardType Tryz.prog.depth 88=false:=by kernel_rfl
theorem Qn {tg:Bool}{T:TypeId}{S:Nat→Prop}{w:World}{A:Option Addr}{n c:Nat}{xs:List Int}(h:Sl tg T Bd w S A n c xs) (hn:n≤100000000):
  Calls Tryz.prog 53 #[.slice A n c] w (zP 3 Bd w xs):=by
 obtain⟨i0,hi,hz0,hz1,hz2⟩:=info_parts Tryz.BZ;have hl:=h.len;have HL:=zh hl
 go_enter Tryz.func53,Tryz.ntmps53
 clear hl;go_wp2
 go_loopw [3,4] (fun v i wr=>∃k:Nat,∃A' c',k≤n∧i=.int .i64 k∧v=.slice A' k c'∧Be 3 Bd wr w.heap.size (fun b=>w.heap.size≤b) A' k c' (xs.take k)∧Below w.heap.size w wr) (fun _ i _=>n - (intOf i).toNat)
 case atStart=>exact⟨0,none,0,Nat.zero_le _,rfl,rfl,by simpa using Be.BA,Below.refl _ _⟩
 case round=>
  obtain⟨k,A',c',hk,rfl,rfl,hown,hb⟩:=hrel;by_cases hlt:k<n
  ·obtain⟨b,off,rfl,hS,hbl,g1,hc0,_⟩:=(h.all hb).BD hlt;have HB:=zh hb;clear hb;go_wp2_with (at_builtin;refine qq rfl _ _ 36 rfl i0 (.int .i64 0) 8 Tryz.underlying36 hi hz0 hz1 hz2 rfl (by decide) rfl (hown.frame (Agree.alloc _ _ _) (by simp)) wr.heap.size 3 1 _ (xs.getD k 0) rfl (heap_alloc_new _ _) ⟨rfl,g1⟩ (by omega) (by omega) (by have:=HB.out.size;simp;omega) ?_)
   intro A2 c2 w2 hown2 hg2 _;go_wp2
   go_roundw
   case rel=>
    have hb:=HB.out;refine⟨k+1,A2,c2,by omega,by go_num,rfl,?_,?_⟩
    ·rw[qA (d:=0) (by have:=HL.out;omega)];exact hown2
    exact(hb.alloc (by have:=hb.size;omega) _).grown hg2 (by have:=hb.size;simp;omega) (fun k hk=>(hown.lt k hk).1)
   case measure=>simp[intOf];omega
  go_wp2
  go_ret
  obtain rfl:k=n:=by omega
  have e1:=HL.out;subst e1;rw[List.take_length] at hown;exact⟨A',c',rfl,hown,hb⟩
theorem kg {tg:Bool}{T:TypeId}{S:Nat→Prop}{w:World}{A:Option Addr}{n c:Nat}{xs:List Bool}(h:Sl tg T Bn w S A n c xs) (hn:n≤100000000):
  Calls Tryz.prog 13 #[.slice A n c] w (zP 4 Bn w xs):=by
 obtain⟨i0,hi,hz0,hz1,hz2⟩:=info_parts Tryz.Cn;have hl:=h.len;have HL:=zh hl
 go_enter Tryz.func13,Tryz.ntmps13
 clear hl;go_wp2
 go_loopw [3,4] (fun v i wr=>∃k:Nat,∃A' c',k≤n∧i=.int .i64 k∧v=.slice A' k c'∧Be 4 Bn wr w.heap.size (fun b=>w.heap.size≤b) A' k c' (xs.take k)∧Below w.heap.size w wr) (fun _ i _=>n - (intOf i).toNat)
 case atStart=>exact⟨0,none,0,Nat.zero_le _,rfl,rfl,by simpa using Be.BA,Below.refl _ _⟩
 case round=>
  obtain⟨k,A',c',hk,rfl,rfl,hown,hb⟩:=hrel;by_cases hlt:k<n
  ·obtain⟨b,off,rfl,hS,hbl,hc0,_⟩:=(h.all hb).Cm hlt;have HB:=zh hb;clear hb;go_wp2_with (at_builtin;refine qq rfl _ _ 30 rfl i0 (.bool false) 1 Tryz.underlying30 hi hz0 hz1 hz2 rfl (by decide) rfl (hown.frame (Agree.alloc _ _ _) (by simp)) wr.heap.size 4 1 _ (xs.getD k false) rfl (heap_alloc_new _ _) ⟨rfl,trivial⟩ (by omega) (by omega) (by have:=HB.out.size;simp;omega) ?_)
   intro A2 c2 w2 hown2 hg2 _;go_wp2
   go_roundw
   case rel=>
    have hb:=HB.out;refine⟨k+1,A2,c2,by omega,by go_num,rfl,?_,?_⟩
    ·rw[qA (d:=false) (by have:=HL.out;omega)];exact hown2
    exact(hb.alloc (by have:=hb.size;omega) _).grown hg2 (by have:=hb.size;simp;omega) (fun k hk=>(hown.lt k hk).1)
   case measure=>simp[intOf];omega
  go_wp2
  go_ret
  obtain rfl:k=n:=by omega
  have e1:=HL.out;subst e1;rw[List.take_length] at hown;exact⟨A',c',rfl,hown,hb⟩
theorem xY {tg tg':Bool}{T T':TypeId}{S S':Nat→Prop}{w:World}{A A':Option Addr}{n c n' c':Nat}{xs ys:List Int}(h:Sl tg T Bd w S A n c xs) (h':Sl tg' T' Bd w S' A' n' c' ys):
  Calls Tryz.prog 26 #[.slice A n c,.slice A' n' c'] w (Bf (.bool (decide (xs=ys))) w):=by
 have HL:=zh h.len;have uZ:=zh h'.len;have hcap:n≤9223372036854775807:=Nat.le_trans h.le h.cap;by_cases hne:n=n'
 ·subst hne
  go_enter Tryz.func26,Tryz.ntmps26
  go_wp2
  go_loopw [5] (fun i wr=>∃k q:Nat,k≤n∧i=.int .i64 k∧wr=w.drewN q∧Hid (xs.take k=ys.take k)) (fun i _=>n - (intOf i).toNat)
  case atStart=>exact⟨0,0,Nat.zero_le _,rfl,rfl,zh (by simp)⟩
  case round=>
   obtain⟨k,q,hk,rfl,rfl,he⟩:=hrel;by_cases hlt:k<n
   ·obtain⟨b,off,rfl,hS,hbl,g1,hc0,_⟩:=h.BD hlt;obtain⟨b',off',rfl,hS',hbl',g1',hc0',_⟩:=h'.BD hlt;generalize hx:xs.getD k 0=x at *;generalize hy:ys.getD k 0=y at *;have HX:=zh hx;clear hx;have HY:=zh hy;clear hy;by_cases hxy:x=y
    ·subst hxy
     skip
     go_wp2
     go_quiet (fail)
     go_wp2
     go_roundw
     case rel=>exact⟨k+1,_,by omega,by go_num,rfl,zh (xL he.out (by rw[HL.out];exact hlt) (by rw[uZ.out];exact hlt) (HX.out.trans HY.out.symm))⟩
     case measure=>simp[intOf];omega
    have hxy':(x !=y)=true:=(by simpa using hxy);have HF:Hid (xs≠ys):=zh (fun e=>by subst e;exact hxy (HX.out.symm.trans HY.out));clear hxy;go_wp2
    go_quiet (fail)
    go_wp2
    go_ret
    exact⟨by rw[decide_eq_false HF.out];rfl,(below_drewN (below_drewN (Below.refl _ _) _) _)⟩
   go_wp2
   go_ret
   obtain rfl:k=n:=by omega
   have e:=he.out;rw[List.take_of_length_le (by rw[HL.out];exact Nat.le_refl _),List.take_of_length_le (by rw[uZ.out];exact Nat.le_refl _)] at e;exact⟨by rw[decide_eq_true e];rfl,(below_drewN (Below.refl _ _) _)⟩
 have hne':((n:Int) !=(n':Int))=true:=by simp;omega
 have HF:Hid (xs≠ys):=zh (fun e=>by subst e;exact hne (HL.out.symm.trans uZ.out))
 go_enter Tryz.func26,Tryz.ntmps26
 go_wp2
 go_ret
 exact⟨by rw[decide_eq_false HF.out];rfl,Below.refl _ _⟩
theorem jO {tg tg':Bool}{T T':TypeId}{S S':Nat→Prop}{w:World}{A A':Option Addr}{n c n' c':Nat}{xs ys:List Bool}(h:Sl tg T Bn w S A n c xs) (h':Sl tg' T' Bn w S' A' n' c' ys):
  Calls Tryz.prog 22 #[.slice A n c,.slice A' n' c'] w (Bf (.bool (decide (xs=ys))) w):=by
 have HL:=zh h.len;have uZ:=zh h'.len;have hcap:n≤9223372036854775807:=Nat.le_trans h.le h.cap;by_cases hne:n=n'
 ·subst hne
  go_enter Tryz.func22,Tryz.ntmps22
  go_wp2
  go_loopw [5] (fun i wr=>∃k q:Nat,k≤n∧i=.int .i64 k∧wr=w.drewN q∧Hid (xs.take k=ys.take k)) (fun i _=>n - (intOf i).toNat)
  case atStart=>exact⟨0,0,Nat.zero_le _,rfl,rfl,zh (by simp)⟩
  case round=>
   obtain⟨k,q,hk,rfl,rfl,he⟩:=hrel;by_cases hlt:k<n
   ·obtain⟨b,off,rfl,hS,hbl,hc0,_⟩:=h.Cm hlt;obtain⟨b',off',rfl,hS',hbl',hc0',_⟩:=h'.Cm hlt;generalize hx:xs.getD k false=x at *;generalize hy:ys.getD k false=y at *;have HX:=zh hx;clear hx;have HY:=zh hy;clear hy;by_cases hxy:x=y
    ·subst hxy
     skip
     go_wp2
     go_quiet (fail)
     go_wp2
     go_roundw
     case rel=>exact⟨k+1,_,by omega,by go_num,rfl,zh (xL he.out (by rw[HL.out];exact hlt) (by rw[uZ.out];exact hlt) (HX.out.trans HY.out.symm))⟩
     case measure=>simp[intOf];omega
    have hxy':(!(x==y))=true:=(by simpa using hxy);have HF:Hid (xs≠ys):=zh (fun e=>by subst e;exact hxy (HX.out.symm.trans HY.out));clear hxy;go_wp2
    go_quiet (fail)
    go_wp2
    go_ret
    exact⟨by rw[decide_eq_false HF.out];rfl,(below_drewN (below_drewN (Below.refl _ _) _) _)⟩
   go_wp2
   go_ret
   obtain rfl:k=n:=by omega
   have e:=he.out;rw[List.take_of_length_le (by rw[HL.out];exact Nat.le_refl _),List.take_of_length_le (by rw[uZ.out];exact Nat.le_refl _)] at e;exact⟨by rw[decide_eq_true e];rfl,(below_drewN (Below.refl _ _) _)⟩
 have hne':((n:Int) !=(n':Int))=true:=by simp;omega
 have HF:Hid (xs≠ys):=zh (fun e=>by subst e;exact hne (HL.out.symm.trans uZ.out))
 go_enter Tryz.func22,Tryz.ntmps22
 go_wp2
 go_ret
 exact⟨by rw[decide_eq_false HF.out];rfl,Below.refl _ _⟩
end Go.Proofs.YtipecejghioicaaGreat
set_option maxHeartbeats 1000000
namespace Go.Proofs.YtipecejghioicaaGreat
open Go.RowKit Go.Silo
theorem Js {tg tg' tg1 tg1':Bool}{T T':TypeId}{S S':Nat→Prop}{w:World}{A A':Option Addr}{n c n' c':Nat}{xs ys:List (List Int)}(h:Sl tg T (Cg tg1 3 Bd) w S A n c xs) (h':Sl tg' T' (Cg tg1' 3 Bd) w S' A' n' c' ys):
  Calls Tryz.prog 54 #[.slice A n c,.slice A' n' c'] w (Bf (.bool (decide (xs=ys))) w):=by
 have HL:=zh h.len;have uZ:=zh h'.len;have hcap:n≤9223372036854775807:=Nat.le_trans h.le h.cap;by_cases hne:n=n'
 ·subst hne
  go_enter Tryz.func54,Tryz.ntmps54
  go_wp2
  go_loopw [5] (fun i wr=>∃k:Nat,k≤n∧i=.int .i64 k∧Below w.heap.size w wr∧Hid (xs.take k=ys.take k)) (fun i _=>n - (intOf i).toNat)
  case atStart=>exact⟨0,Nat.zero_le _,rfl,Below.refl _ _,zh (by simp)⟩
  case round=>
   obtain⟨k,hk,rfl,hB,he⟩:=hrel;by_cases hlt:k<n
   ·obtain⟨b,off,A1,n1,c1,rfl,hS,hbl,h1,hc0,_⟩:=(h.all hB).Di hlt;obtain⟨b',off',pD,n1',c1',rfl,hS',hbl',h1',hc0',_⟩:=(h'.all hB).Di hlt;generalize hx:xs.getD k []=x at *;generalize hy:ys.getD k []=y at *;have HX:=zh hx;clear hx;have HY:=zh hy;clear hy;have HB:=zh hB;clear hB;have gI:=qX wr;by_cases hxy:x=y
    ·have hc:=fun X=>(xY (h1.all bz) (h1'.all bz):Calls _ _ _ (wr.ext X) _)
     rw[decide_eq_true hxy] at hc;have HC:=zh hc;clear hc;have HXY:=zh hxy;clear hxy;go_wp2
     refine qG (by kernel_rfl) (by kernel_rfl) ?_
     repeat (go_big_quiet_step ((go_at_call 26;exact Bf.ext (HC.out _))))
     refine wpQuiet_nil ?_;rintro _ ⟨X,rfl⟩;go_wp2
     go_roundw
     case rel=>
      have hB:=HB.out;exact⟨k+1,by omega,by go_num,bz,zh (xL he.out (by rw[HL.out];exact hlt) (by rw[uZ.out];exact hlt) (HX.out.trans (HXY.out.trans HY.out.symm)))⟩
     case measure=>simp[intOf];omega
    have hc:=fun X=>(xY (h1.all bz) (h1'.all bz):Calls _ _ _ (wr.ext X) _)
    rw[decide_eq_false hxy] at hc;have HC:=zh hc;clear hc;have HF:Hid (xs≠ys):=zh (fun e=>by subst e;exact hxy (HX.out.symm.trans HY.out));clear hxy;go_wp2
    refine qG (by kernel_rfl) (by kernel_rfl) ?_
    repeat (go_big_quiet_step ((go_at_call 26;exact Bf.ext (HC.out _))))
    refine wpQuiet_nil ?_;rintro _ ⟨X,rfl⟩;go_wp2
    go_ret
    have hB:=HB.out;exact⟨by rw[decide_eq_false HF.out];rfl,bz⟩
   go_wp2
   go_ret
   obtain rfl:k=n:=by omega
   have e:=he.out;rw[List.take_of_length_le (by rw[HL.out];exact Nat.le_refl _),List.take_of_length_le (by rw[uZ.out];exact Nat.le_refl _)] at e;exact⟨by rw[decide_eq_true e];rfl,hB⟩
 have hne':((n:Int) !=(n':Int))=true:=by simp;omega
 have HF:Hid (xs≠ys):=zh (fun e=>by subst e;exact hne (HL.out.symm.trans uZ.out))
 go_enter Tryz.func54,Tryz.ntmps54
 go_wp2
 go_ret
 exact⟨by rw[decide_eq_false HF.out];rfl,Below.refl _ _⟩
theorem Tryz.CQ:(Tryz.prog.info? 36).map (fun i=>(i.zero,i.size,i.bytes))=some (some (.slice none 0 0),1,24):=by kernel_rfl
end Go.Proofs.YtipecejghioicaaGreat
set_option maxHeartbeats 1000000
namespace Go.Proofs.YtipecejghioicaaGreat
open Go.RowKit Go.Silo
theorem XD {tg tg':Bool}{S S':Nat→Prop}{w:World}{A0 A1 A0' pD:Option Addr}{n0 c0 n1 c1 n0' c0' n1' c1':Nat}{x y:Bg}
  (h0:Sl tg 4 Bn w S A0 n0 c0 x.live) (h1:Sl tg 36 (Cg tg 3 Bd) w S A1 n1 c1 x.free)
  (h0':Sl tg' 4 Bn w S' A0' n0' c0' y.live) (h1':Sl tg' 36 (Cg tg' 3 Bd) w S' pD n1' c1' y.free):
  Calls Tryz.prog 21 #[.agg #[.slice A0 n0 c0,.slice A1 n1 c1],.agg #[.slice A0' n0' c0',.slice pD n1' c1']] w (Bf (.bool (decide (x=y))) w):=by
 rw[show decide (x=y)=decide (x.live=y.live∧x.free=y.free) from decide_eq_decide.2 Bg.Bl];generalize hr:decide (x.live=y.live∧x.free=y.free)=r;have HR:=zh hr;clear hr
 go_enter Tryz.func21,Tryz.ntmps21
 go_wp2_with (first
  |(go_at_call 22;refine(jO (h0.all bz) (h0'.all bz)).mono ?_;rintro e w1 ⟨rfl,hb1⟩;obtain⟨hc1,vd⟩:=qg hb1)
  |(go_at_call 54;refine(Js (h1.all bz) (h1'.all bz)).mono ?_;rintro e w2 ⟨rfl,hb2⟩;obtain⟨hc2,hf2⟩:=qg hb2))
 all_goals
  go_ret
  exact⟨by rw[←HR.out];simp[*],bz⟩
theorem Tryz.Cj:(Tryz.prog.info? 86).map (fun i=>(i.zero,i.size,i.bytes))=some (some (.agg #[.int .i64 0,.int .i64 0,.int .i64 0,.slice none 0 0]),4,48):=by kernel_rfl
theorem Tryz.Cs:(Tryz.prog.info? 90).map (fun i=>(i.zero,i.size,i.bytes))=some (some (.agg #[.string ByteArray.empty,.int .i64 0,.bool false,.slice none 0 0]),4,56):=by kernel_rfl
end Go.Proofs.YtipecejghioicaaGreat
set_option maxHeartbeats 400000
namespace Go.Proofs.YtipecejghioicaaGreat
open Go.RowKit Go.Silo
def RetN (P:Int→Prop) (w:World) (e:Ending) (w':World):Prop:=∃v:Int,e=.returned (.int .i64 v)∧P v∧Below w.heap.size w w'
theorem Jt {w:World}{i n:Int}(hi:Bo i) (h0:0<n) (hn:n≤1000000):Calls Tryz.prog 12 #[.int .i64 i,.int .i64 n] w (RetN (fun v=>0≤v∧v<n) w):=by
 obtain⟨hi1,hi2⟩:=hi
 go_enter Tryz.func12,Tryz.ntmps12
 go_wp2
 go_ret
 have h1:0≤IntKind.u64.wrap i:=by rw[IntKind.wrap_u64];omega
 have h2:(IntKind.u64.wrap i).tmod n=(IntKind.u64.wrap i) % n:=by rw[Int.tmod_eq_emod_of_nonneg h1]
 have h3:0≤(IntKind.u64.wrap i) % n:=Int.emod_nonneg _ (by omega);have h4:(IntKind.u64.wrap i) % n<n:=Int.emod_lt_of_pos _ h0;refine⟨wrap64 ((IntKind.u64.wrap i).tmod n),rfl,?_,Below.refl _ _⟩;rw[h2,IntWalk.wrap64_in _ ⟨by omega,by omega⟩];exact⟨h3,h4⟩
theorem Ca {w:World}{n m:Int}:Calls Tryz.prog 18 #[.int .i64 n,.int .i64 m] w (Bf (.bool (decide (0≤n∧n≤m))) w):=by
 go_enter Tryz.func18,Tryz.ntmps18
 go_wp2
 all_goals
  go_ret
  exact⟨by congr 2;simp_all;try omega,Below.refl _ _⟩
theorem BH {w:World}{n l m:Int}:Calls Tryz.prog 17 #[.int .i64 n,.int .i64 l,.int .i64 m] w (Bf (.bool (decide (l≤n∧n≤m))) w):=by
 go_enter Tryz.func17,Tryz.ntmps17
 go_wp2
 all_goals
  go_ret
  exact⟨by congr 2;simp_all;try omega,Below.refl _ _⟩
def ku (l:List Int) (n:Int):Int:=match l.findIdx? (·==n) with|some k=>(k:Int)|none=>-1
theorem In_c {tg:Bool}{T:TypeId}{S:Nat→Prop}{w:World}{A:Option Addr}{n c:Nat}{xs:List Int}{x:Int}(h:Sl tg T Bd w S A n c xs):
  Calls Tryz.prog 44 #[.slice A n c,.int .i64 x] w (Bf (.int .i64 (ku xs x)) w):=by
 have HL:=zh h.len;have hcap:n≤9223372036854775807:=Nat.le_trans h.le h.cap
 go_enter Tryz.func44,Tryz.ntmps44
 go_wp2
 go_loopw [5] (fun i wr=>∃k:Nat,k≤n∧i=.int .i64 k∧wr=w∧Hid (∀j,j<k→xs.getD j 0≠x)) (fun i _=>n - (intOf i).toNat)
 case atStart=>exact⟨0,Nat.zero_le _,rfl,rfl,zh (fun j hj=>by omega)⟩
 case round=>
  obtain⟨k,hk,rfl,rfl,he⟩:=hrel;by_cases hlt:k<n
  ·obtain⟨b,off,rfl,hS,hbl,g1,hc0,_⟩:=h.BD hlt;generalize hx:xs.getD k 0=y at *;have HX:=zh hx;clear hx;by_cases hxy:y=x
   ·have hb:(y==x)=true:=by simpa using hxy
    have HF:Hid (ku xs x=(k:Int)):=zh (by
     have hl:=HL.out
     have:xs.findIdx? (·==x)=some k:=by
      rw[List.findIdx?_eq_some_iff_getElem];refine⟨by omega,?_,fun j hj=>?_⟩
      ·have:=HX.out;rw[List.getD_eq_getElem?_getD,List.getElem?_eq_getElem (by omega)] at this;simpa[hxy] using this
      have:=he.out j hj;rw[List.getD_eq_getElem?_getD,List.getElem?_eq_getElem (by omega)] at this;simpa using this
     unfold ku;rw[this])
    clear hxy;go_wp2
    go_ret
    exact⟨by rw[HF.out];rfl,Below.refl _ _⟩
   have hb:(y==x)=false:=(by simpa using hxy);clear hxy;go_wp2
   go_roundw
   case rel=>exact⟨k+1,by omega,by go_num,by trivial,zh (fun j hj=>by
    by_cases hjk:j=k
    ·subst hjk;rw[HX.out];simpa using hb
    exact he.out j (by omega))⟩
   case measure=>simp[intOf];omega
  have HF:Hid (ku xs x=-1):=zh (by
   have hl:=HL.out
   have:xs.findIdx? (·==x)=none:=by
    rw[List.findIdx?_eq_none_iff];intro y hy;obtain⟨j,hj,rfl⟩:=List.mem_iff_getElem.1 hy;have:=he.out j (by omega);rw[List.getD_eq_getElem?_getD,List.getElem?_eq_getElem hj] at this;simpa using this
   unfold ku;rw[this])
  go_wp2
  go_ret
  exact⟨by rw[HF.out];rfl,Below.refl _ _⟩
end Go.Proofs.YtipecejghioicaaGreat
namespace Go.Proofs.YtipecejghioicaaGreat
open Go.RowKit Go.Silo
def Rat (xs:List Int) (j:Nat):Prop:=0≤xs.getD j 0∧xs.getD j 0≤63∧(0<j→xs.getD (j - 1) 0<xs.getD j 0)
def Rising (xs:List Int):Prop:=∀j,j<xs.length→Rat xs j
theorem Rat.first {xs:List Int}{j:Nat}(hj:j=0) (h0:0≤xs.getD j 0) (h1:xs.getD j 0≤63):Rat xs j:=⟨h0,h1,fun h=>by omega⟩
theorem Rat.next {xs:List Int}{j:Nat}(h0:0≤xs.getD (j+1) 0) (h1:xs.getD (j+1) 0≤63) (h2:xs.getD j 0<xs.getD (j+1) 0):Rat xs (j+1):=⟨h0,h1,fun _=>by simpa using h2⟩
def idxOf {α:Type}(p:α→Bool) (xs:List α):Int:=match xs.findIdx? p with|some k=>(k:Int)|none=>-1
theorem zO {α:Type}{p:α→Bool}{xs:List α}{d:α}{k:Nat}(hk:k<xs.length) (h:p (xs.getD k d)=true) (hn:∀j,j<k→p (xs.getD j d)=false):idxOf p xs=(k:Int):=by
 have:xs.findIdx? p=some k:=by
  rw[List.findIdx?_eq_some_iff_getElem];refine⟨hk,?_,fun j hj=>?_⟩
  ·rw[List.getD_eq_getElem?_getD,List.getElem?_eq_getElem hk] at h;simpa using h
  have:=hn j hj;rw[List.getD_eq_getElem?_getD,List.getElem?_eq_getElem (by omega)] at this;simpa using this
 unfold idxOf;rw[this]
theorem xM {α:Type}{p:α→Bool}{xs:List α}{d:α}(hn:∀j,j<xs.length→p (xs.getD j d)=false):idxOf p xs=-1:=by
 have:xs.findIdx? p=none:=by
  rw[List.findIdx?_eq_none_iff];intro y hy;obtain⟨j,hj,rfl⟩:=List.mem_iff_getElem.1 hy;have:=hn j hj;rw[List.getD_eq_getElem?_getD,List.getElem?_eq_getElem hj] at this;simpa using this
 unfold idxOf;rw[this]
theorem jf {α:Type}{p:α→Bool}{xs:List α}:xs.any p=decide (0≤idxOf p xs):=by
 unfold idxOf
 cases h:xs.findIdx? p with
 |none=>
  rw[List.findIdx?_eq_none_iff] at h;rw[List.any_eq_false.2 (fun x hx=>by simpa using h x hx)];rfl
 |some k=>
  rw[List.findIdx?_eq_some_iff_getElem] at h;obtain⟨hk,hp,_⟩:=h;rw[List.any_eq_true.2 ⟨_,List.getElem_mem hk,hp⟩];simp
theorem zR {α:Type}{l:List α}{d:α}{k:Nat}(h:k<l.length):l.getD k d∈l:=by rw[List.getD_eq_getElem?_getD,List.getElem?_eq_getElem h];exact List.getElem_mem _
end Go.Proofs.YtipecejghioicaaGreat
