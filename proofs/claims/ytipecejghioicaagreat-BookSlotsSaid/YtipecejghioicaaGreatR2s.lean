/- Fit.stripes: the slots of one stripe behind the other, for whoever ranges over it. -/
import Derived.Test.YtipecejghioicaaGreatDatas
import Derived.Test.YtipecejghioicaaGreatP0s
import Derived.Test.YtipecejghioicaaGreatS1s
import Derived.Lib.SliceRun
import Derived.Deep.RegionLaw
import Derived.Deep.DeepMust
import Derived.Test.YtipecejghioicaaGreatE1s
import Derived.StillTailTactics
import Derived.RangeFuncNested
import Derived.RangeFuncLeaves
import Derived.RangeFuncCalls
import Derived.OwnWalkIn
import Derived.TacticsInMore
import Derived.LoopNIn
import Derived.LoopIn
import Derived.WalkKit
import Derived.Shelf.Abstract
import Derived.Shelf.RegionOpen
namespace Go.Silo
open Go.RowKit
theorem xA (w:World) (p:Addr) (v:Value) (b:Nat):(w.setCell p v).shape? b=w.shape? b:=by
 simp only[World.shape?,World.setCell,Array.getElem?_modify];by_cases h:p.block=b
 ·subst h;simp only[if_true]
  cases hh:w.heap[p.block]? with
  |none=>rfl
  |some o=>cases o<;>simp<;>(try (split<;>simp))
 rw[if_neg h]
theorem Sl.set1 {α:Type}{T:TypeId}{E:Enc α}{w:World}{S:Nat→Prop}{b off n c:Nat}{xs:List α}(h:Sl true T E w S (some ⟨b,off,none⟩) n c xs) (hsz:E.sz=1) (hE:E.BB T) {k:Nat}(hk:k<n) {v:Value}{y:α}(hy:E.R w S [v] y):
  Sl true T E (w.setCell ⟨b,off+k,none⟩ v) S (some ⟨b,off,none⟩) n c (xs.set k y):=by
 obtain⟨h1,h2,h3,h4⟩:=h;obtain⟨b',off',e,hb,hlt,ht,hx⟩:=h4 (by omega);injection e with e;injection e with e1 e2 _;subst e1;subst e2
 obtain⟨q,hq⟩:=ht rfl;have hA:∀i,S i→i<w.heap.size→(∀k,w.shape? i≠some (T,k))→(w.setCell ⟨b,off+k,none⟩ v).heap[i]?=w.heap[i]?:=fun i _ _ hn=>Below.heap_setCell w _ v i (fun e=>by simp at e;subst e;exact hn q hq);refine⟨by rw[List.length_set];exact h1,h2,h3,fun hn=>⟨b,off,rfl,hb,by simpa using hlt,fun _=>⟨q,by rw[xA];exact hq⟩,fun j z hj=>?_⟩⟩;have hjl:=(List.getElem?_eq_some_iff.1 hj).1;rw[List.length_set] at hjl;rw[hsz,Nat.mul_one];by_cases hjk:j=k
 ·subst hjk;rw[List.getElem?_set_self (by omega)] at hj;injection hj with hj
  subst hj;refine⟨[v],hE hA (by simp) hy,fun i u hi=>?_⟩
  match i,hi with
  |0,hi=>
   simp at hi;subst hi;obtain⟨z0,hz0⟩:∃z0,xs[j]?=some z0:=⟨_,List.getElem?_eq_getElem (by omega)⟩;obtain⟨vs,hv,hc⟩:=hx j z0 hz0;have hvl:=E.len hv;rw[hsz] at hvl;obtain⟨u0,hu0⟩:∃u0,vs[0]?=some u0:=⟨_,List.getElem?_eq_getElem (by omega)⟩;have:=hc 0 u0 hu0;rw[hsz,Nat.mul_one,Nat.add_zero] at this;rw[Nat.add_zero];exact⟨World.cell?_setCell_same _ _ _ this.1,by rw[World.frozen?_setCell];exact this.2⟩
 rw[List.getElem?_set_ne (Ne.symm hjk)] at hj;obtain⟨vs,hv,hc⟩:=hx j z hj;have hvl:=E.len hv;rw[hsz] at hvl;refine⟨vs,hE hA (by simp) hv,fun i u hi=>?_⟩;have hi0:i=0:=by have:=(List.getElem?_eq_some_iff.1 hi).1;omega
 subst hi0;have:=hc 0 u hi;rw[hsz,Nat.mul_one] at this;exact⟨by rw[World.cell?_setCell_other _ _ _ _ (by simp<;>omega)];exact this.1,by rw[World.frozen?_setCell];exact this.2⟩
structure Bw (S:Nat→Prop) (T:TypeId) (w w':World):Prop where
 os:w'.os=w.os
 tape:w'.tape=w.tape
 output:w'.output=w.output
 size:w.heap.size≤w'.heap.size
 block:∀b,b<w.heap.size→(¬S b∨∀k,w.shape? b≠some (T,k))→w'.heap[b]?=w.heap[b]?
 shape:∀b,b<w.heap.size→w'.shape? b=w.shape? b
section
variable {S:Nat→Prop}{T:TypeId}{w w' w'':World}
theorem Bw.refl (S:Nat→Prop) (T:TypeId) (w:World):Bw S T w w:=⟨rfl,rfl,rfl,Nat.le_refl _,fun _ _ _=>rfl,fun _ _=>rfl⟩
theorem Bw.trans (h:Bw S T w w') (k:Bw S T w' w''):Bw S T w w'':=
 ⟨k.os.trans h.os,k.tape.trans h.tape,k.output.trans h.output,Nat.le_trans h.size k.size,fun b hb hn=>(k.block b (Nat.lt_of_lt_of_le hb h.size) (hn.imp id (fun hh i=>by rw[h.shape b hb];exact hh i))).trans (h.block b hb hn),fun b hb=>(k.shape b (Nat.lt_of_lt_of_le hb h.size)).trans (h.shape b hb)⟩
theorem Bw.of_below (h:Below w.heap.size w w'):Bw S T w w':=⟨h.os,h.tape,h.output,h.size,fun b hb _=>h.block b hb,fun b hb=>qU (h.block b hb)⟩
theorem Bw.call (h:Bw S T w w') (k:Below w'.heap.size w' w''):Bw S T w w'':=h.trans (.of_below k)
theorem Bw.alloc (h:Bw S T w w') (o:Obj):Bw S T w (w'.alloc o):=h.call ((Below.refl _ _).alloc (Nat.le_refl _) _)
theorem Bw.drew (h:Bw S T w w'):Bw S T w w'.drew:=⟨h.os,h.tape,h.output,h.size,h.block,h.shape⟩
theorem Bw.drewN (h:Bw S T w w') (n:Nat):Bw S T w (w'.drewN n):=⟨h.os,h.tape,h.output,h.size,h.block,h.shape⟩
theorem Bw.setCell (h:Bw S T w w') {p:Addr}{k:Nat}(hS:S p.block) (hT:w'.shape? p.block=some (T,k)) (v:Value):Bw S T w (w'.setCell p v):=
 ⟨h.os,h.tape,h.output,by simpa using h.size,fun b hb hn=>(Below.heap_setCell w' p v b (fun e=>by
  subst e;rcases hn with hn|hn
  ·exact hn hS
  exact hn k ((h.shape _ hb).symm.trans hT))).trans (h.block b hb hn),fun b hb=>(xA w' p v b).trans (h.shape b hb)⟩
theorem Bw.grown (h:Bw S T w w') {row:Option Nat}(hg:w'.grownBy w'' row) (hr:∀r,row=some r→w.heap.size≤r):Bw S T w w'':=by
 refine⟨hg.os.trans h.os,hg.tape.trans h.tape,hg.output.trans h.output,Nat.le_trans h.size hg.size,fun b hb hn=>(hg.block b (Nat.lt_of_lt_of_le hb h.size) (fun e=>by have:=hr b e.symm;omega)).trans (h.block b hb hn),fun b hb=>?_⟩;rw[qU (hg.block b (Nat.lt_of_lt_of_le hb h.size) (fun e=>by have:=hr b e.symm;omega))];exact h.shape b hb
theorem Bw.below (h:Bw S T w w') {B:Nat}(hB:B≤w.heap.size) (hS:∀b,S b→B≤b):Below B w w':=⟨h.os,h.tape,h.output,h.size,fun b hb=>h.block b (by omega) (.inl fun hs=>by have:=hS b hs;omega)⟩
theorem Bw.sl {α:Type}{E:Enc α}{T':TypeId}{S':Nat→Prop}{A:Option Addr}{n c:Nat}{xs:List α}(h:Bw S T w w') (hE:E.BB T) (hT:T'≠T) (hs:Sl true T' E w S' A n c xs):Sl true T' E w' S' A n c xs:=
 hs.Ch hE hT (fun b _ hlt hn=>h.block b hlt (.inr hn)) h.size
theorem Bw.heap (h:Bw S T w w') {b:Nat}{cs:Array Value}{T':TypeId}{fr:Nat×Nat}(hb:w.heap[b]?=some (.cells cs T' fr)) (hT:T'≠T):w'.heap[b]?=some (.cells cs T' fr):=by
 rw[h.block b (zl hb) (.inr fun k e=>by rw[qf hb] at e;injection e with e;injection e with e _;exact hT e)];exact hb
end
theorem xZ (T:TypeId):Bd.BB T:=BB.flat
theorem zH (T:TypeId):Bn.BB T:=BB.flat
theorem Sl.tail {α:Type}{tg:Bool}{T:TypeId}{E:Enc α}{w:World}{S:Nat→Prop}{b off n c:Nat}{xs:List α}(h:Sl tg T E w S (some ⟨b,off,none⟩) n c xs) (hn:0<n) (hsz:E.sz=1):
  Sl tg T E w S (some (if c=1 then ⟨b,off,none⟩ else ⟨b,off+1,none⟩)) (n - 1) (c - 1) xs.tail:=by
 obtain⟨h1,h2,h3,h4⟩:=h;refine⟨by rw[List.length_tail];omega,by omega,by omega,fun uN=>?_⟩;obtain⟨b',off',e,hb,hlt,ht,hx⟩:=h4 hn;injection e with e;injection e with e1 e2 _;subst e1;subst e2
 rw[if_neg (by omega)];refine⟨b,off+1,rfl,hb,hlt,ht,fun k x hk=>?_⟩;rw[List.getElem?_tail] at hk;obtain⟨vs,hv,hc⟩:=hx (k+1) x hk;refine⟨vs,hv,fun j v hj=>?_⟩;have:=hc j v hj;rw[hsz,Nat.mul_one] at this⊢
 rwa [show off+1+k+j=off+(k+1)+j from by omega]
end Go.Silo
set_option maxHeartbeats 400000
namespace Go.Proofs.YtipecejghioicaaGreat
open Go.RowKit Go.Silo
def xG {α:Type}(T:TypeId) (E:Enc α) (w:World) (S:Nat→Prop) (xs:List α) (e:Ending) (w':World):Prop:=
 ∃A c,e=.returned (.slice A xs.length c)∧Be T E w' w.heap.size S A xs.length c xs∧Below w.heap.size w w'
theorem jQ {tg:Bool}{T:TypeId}{S:Nat→Prop}{w:World}{A:Option Addr}{n c:Nat}{xs:List (Int)}(h:Sl tg T Bd w S A n c xs) (hn:n≤100000000):
  Calls Tryz.prog 95 #[.slice A n c] w (zP 3 Bd w xs):=by
 obtain⟨i0,hi,hz0,hz1,hz2⟩:=info_parts Tryz.BZ;have HL:=zh h.len;have hq:=fun W:World=>Lib.run_eql_slice_nil (P:=Tryz.prog) W 36 3 A n c 0 0 Tryz.underlying36
 cases A with
 |none=>
  go_enter Tryz.func95,Tryz.ntmps95
  go_wp2
  go_ret
  have hn0:n=0:=by
   rcases Nat.eq_zero_or_pos n with h0|h0
   ·exact h0
   obtain⟨_,_,e,_⟩:=h.2.2.2 h0;cases e
  subst hn0;obtain rfl:xs=[]:=List.eq_nil_of_length_eq_zero HL.out;exact⟨none,0,rfl,Be.BA,Below.refl _ _⟩
 |some ad=>
  have mo:Be 3 Bd (w.alloc (.cells #[] 3)) w.heap.size (fun b=>w.heap.size≤b) (some ⟨w.heap.size,0,none⟩) 0 0 []:=Be.lit [] [] 0 (Nat.le_refl _) (by omega) (by simp) rfl (fun k y hy=>by simp at hy);have hsl:=(h.Bi).frame (Agree.alloc _ w (.cells #[] 3)) (by simp);rcases Nat.eq_zero_or_pos n with h0|h0
  ·subst h0;obtain rfl:xs=[]:=List.eq_nil_of_length_eq_zero HL.out
   go_enter Tryz.func95,Tryz.ntmps95
   go_wp2_with (at_builtin;refine qQ rfl _ _ 36 rfl i0 (.int .i64 0) 8 Tryz.underlying36 hi hz0 hz1 hz2 rfl (by decide) rfl mo ad 0 _ [] [] rfl (by simp) (fun j u hj=>by simp at hj) rfl (fun k y hy=>by simp at hy) (fun u hu=>by simp at hu) (by omega) (by omega) (by simp) ?_)
   intro A2 c2 w2 hown2 hg2 _;go_wp2
   go_ret
   exact⟨A2,c2,rfl,hown2,((Below.refl _ w).alloc (Nat.le_refl _) _).grown hg2 (by simp) (fun k hk=>by simp[qa] at hk;omega)⟩
  obtain⟨b,off,e,_⟩:=h.2.2.2 h0;injection e with e
  subst e
  go_enter Tryz.func95,Tryz.ntmps95
  go_wp2_with (at_builtin;refine qT rfl _ _ 36 rfl i0 (.int .i64 0) 8 Tryz.underlying36 hi hz0 hz1 hz2 rfl (by decide) rfl mo rfl hsl (fun vs y _ hR=>hR) (by omega) (by omega) (by simp) ?_)
  intro A2 c2 w2 hown2 hg2 _
  try simp only[Nat.zero_add,List.nil_append] at hown2
  have e1:=HL.out;subst e1;go_wp2
  go_ret
  exact⟨A2,c2,by simp,hown2,((Below.refl _ w).alloc (Nat.le_refl _) _).grown hg2 (by simp) (fun k hk=>by simp[qa] at hk;omega)⟩
theorem ZV {tg:Bool}{T:TypeId}{S:Nat→Prop}{w:World}{A:Option Addr}{n c:Nat}{xs:List (Bool)}(h:Sl tg T Bn w S A n c xs) (hn:n≤100000000):
  Calls Tryz.prog 79 #[.slice A n c] w (zP 4 Bn w xs):=by
 obtain⟨i0,hi,hz0,hz1,hz2⟩:=info_parts Tryz.Cn;have HL:=zh h.len;have hq:=fun W:World=>Lib.run_eql_slice_nil (P:=Tryz.prog) W 30 4 A n c 0 0 Tryz.underlying30
 cases A with
 |none=>
  go_enter Tryz.func79,Tryz.ntmps79
  go_wp2
  go_ret
  have hn0:n=0:=by
   rcases Nat.eq_zero_or_pos n with h0|h0
   ·exact h0
   obtain⟨_,_,e,_⟩:=h.2.2.2 h0;cases e
  subst hn0;obtain rfl:xs=[]:=List.eq_nil_of_length_eq_zero HL.out;exact⟨none,0,rfl,Be.BA,Below.refl _ _⟩
 |some ad=>
  have mo:Be 4 Bn (w.alloc (.cells #[] 4)) w.heap.size (fun b=>w.heap.size≤b) (some ⟨w.heap.size,0,none⟩) 0 0 []:=Be.lit [] [] 0 (Nat.le_refl _) (by omega) (by simp) rfl (fun k y hy=>by simp at hy);have hsl:=(h.Bi).frame (Agree.alloc _ w (.cells #[] 4)) (by simp);rcases Nat.eq_zero_or_pos n with h0|h0
  ·subst h0;obtain rfl:xs=[]:=List.eq_nil_of_length_eq_zero HL.out
   go_enter Tryz.func79,Tryz.ntmps79
   go_wp2_with (at_builtin;refine qQ rfl _ _ 30 rfl i0 (.bool false) 1 Tryz.underlying30 hi hz0 hz1 hz2 rfl (by decide) rfl mo ad 0 _ [] [] rfl (by simp) (fun j u hj=>by simp at hj) rfl (fun k y hy=>by simp at hy) (fun u hu=>by simp at hu) (by omega) (by omega) (by simp) ?_)
   intro A2 c2 w2 hown2 hg2 _;go_wp2
   go_ret
   exact⟨A2,c2,rfl,hown2,((Below.refl _ w).alloc (Nat.le_refl _) _).grown hg2 (by simp) (fun k hk=>by simp[qa] at hk;omega)⟩
  obtain⟨b,off,e,_⟩:=h.2.2.2 h0;injection e with e
  subst e
  go_enter Tryz.func79,Tryz.ntmps79
  go_wp2_with (at_builtin;refine qT rfl _ _ 30 rfl i0 (.bool false) 1 Tryz.underlying30 hi hz0 hz1 hz2 rfl (by decide) rfl mo rfl hsl (fun vs y _ hR=>hR) (by omega) (by omega) (by simp) ?_)
  intro A2 c2 w2 hown2 hg2 _
  try simp only[Nat.zero_add,List.nil_append] at hown2
  have e1:=HL.out;subst e1;go_wp2
  go_ret
  exact⟨A2,c2,by simp,hown2,((Below.refl _ w).alloc (Nat.le_refl _) _).grown hg2 (by simp) (fun k hk=>by simp[qa] at hk;omega)⟩
def za (n:Nat):List Int:=(List.range n).map (fun i:Nat=>(i:Int))
theorem QC (n:Nat):za (n+1)=za n++[(n:Int)]:=by simp[za,List.range_succ]
theorem xH (n:Nat):(za n).length=n:=by simp[za]
theorem All_c {w:World}{n:Nat}(hn:n≤100000000):Calls Tryz.prog 80 #[.int .i64 (n:Int)] w (zP 3 Bd w (za n)):=by
 obtain⟨i0,hi,hz0,hz1,hz2⟩:=info_parts Tryz.BZ
 go_enter Tryz.func80,Tryz.ntmps80
 go_wp2
 go_loopw [2,3,5] (fun v _ i wr=>∃k:Nat,∃A' c',k≤n∧i=.int .i64 k∧v=.slice A' k c'∧Be 3 Bd wr w.heap.size (fun b=>w.heap.size≤b) A' k c' (za k)∧Below w.heap.size w wr) (fun _ _ i _=>n - (intOf i).toNat)
 case atStart=>exact⟨0,none,0,Nat.zero_le _,rfl,rfl,by simpa[za] using Be.BA,Below.refl _ _⟩
 case round=>
  obtain⟨k,A',c',hk,rfl,rfl,hown,hb⟩:=hrel;by_cases hlt:k<n
  ·have HB:=zh hb;clear hb;go_wp2_with (at_builtin;refine qq rfl _ _ 36 rfl i0 (.int .i64 0) 8 Tryz.underlying36 hi hz0 hz1 hz2 rfl (by decide) rfl (hown.frame (Agree.alloc _ _ _) (by simp)) wr.heap.size 3 1 _ (k:Int) rfl (heap_alloc_new _ _) ⟨rfl,by constructor<;>omega⟩ (by omega) (by omega) (by have:=HB.out.size;simp;omega) ?_)
   intro A2 c2 w2 hown2 hg2 _;go_wp2
   go_roundw
   case rel=>
    have hb:=HB.out;refine⟨k+1,A2,c2,by omega,by go_num,rfl,?_,?_⟩
    ·rw[QC];exact hown2
    exact(hb.alloc (by have:=hb.size;omega) _).grown hg2 (by have:=hb.size;simp;omega) (fun k hk=>(hown.lt k hk).1)
   case measure=>simp[intOf];omega
  go_wp2
  go_ret
  obtain rfl:k=n:=by omega
  exact⟨A',c',by rw[xH];rfl,by rw[xH];exact hown,hb⟩
theorem ZW {w:World}{n:Nat}(hn:n≤100000000):Calls Tryz.prog 84 #[.int .i64 (n:Int)] w (zP 3 Bd w (za n)):=by
 obtain⟨i0,hi,hz0,hz1,hz2⟩:=info_parts Tryz.BZ
 go_enter Tryz.func84,Tryz.ntmps84
 go_wp2
 go_loopw [3,4] (fun v i wr=>∃k:Nat,∃A' c',k≤n∧i=.int .i64 k∧v=.slice A' k c'∧Be 3 Bd wr w.heap.size (fun b=>w.heap.size≤b) A' k c' (za k)∧Below w.heap.size w wr) (fun _ i _=>n - (intOf i).toNat)
 case atStart=>exact⟨0,none,0,Nat.zero_le _,rfl,rfl,by simpa[za] using Be.BA,Below.refl _ _⟩
 case round=>
  obtain⟨k,A',c',hk,rfl,rfl,hown,hb⟩:=hrel;by_cases hlt:k<n
  ·have HB:=zh hb;clear hb;go_wp2_with (at_builtin;refine qq rfl _ _ 36 rfl i0 (.int .i64 0) 8 Tryz.underlying36 hi hz0 hz1 hz2 rfl (by decide) rfl (hown.frame (Agree.alloc _ _ _) (by simp)) wr.heap.size 3 1 _ (k:Int) rfl (heap_alloc_new _ _) ⟨rfl,by constructor<;>omega⟩ (by omega) (by omega) (by have:=HB.out.size;simp;omega) ?_)
   intro A2 c2 w2 hown2 hg2 _;go_wp2
   go_roundw
   case rel=>
    have hb:=HB.out;refine⟨k+1,A2,c2,by omega,by go_num,rfl,?_,?_⟩
    ·rw[QC];exact hown2
    exact(hb.alloc (by have:=hb.size;omega) _).grown hg2 (by have:=hb.size;simp;omega) (fun k hk=>(hown.lt k hk).1)
   case measure=>simp[intOf];omega
  go_wp2
  go_ret
  obtain rfl:k=n:=by omega
  exact⟨A',c',by rw[xH];rfl,by rw[xH];exact hown,hb⟩
end Go.Proofs.YtipecejghioicaaGreat
namespace Go.Proofs.YtipecejghioicaaGreat
open Go.RowKit Go.Silo
def room (x:Bg) (d:Int):Int:=((x.free.getD d.toNat []).length:Int)
end Go.Proofs.YtipecejghioicaaGreat
namespace Go.Proofs.YtipecejghioicaaGreat
open Go.RowKit Go.Silo
def EH (live:List Bool) (not:List Int) (k:Nat):List Int:=(za k).filter (fun d=>live.getD d.toNat false&&!decide (d∈not))
def Jy (x:Bg) (not:List Int):List Int:=EH x.live not x.live.length
def Zx (x:Bg) (l:List Int):List Int:=l.filter (fun d=>decide (0<room x d))
def Jz (x:Bg) (n:Nat) (not:List Int):List Int:=(EE (room x) (Zx x (Jy x not))).take n
def EI (x:Bg) (d:Int):Slot:=⟨d,(x.free.getD d.toNat []).getD 0 0⟩
def EJ (f:List (List Int)) (d:Int):List (List Int):=f.set d.toNat (f.getD d.toNat []).tail
def xN (x:Bg) (n:Nat) (not:List Int):Int:=if (Jy x not).length<n then 6 else if (Zx x (Jy x not)).length<n then 5 else 0
def Xu (x:Bg) (n:Nat) (not:List Int):List Slot:=(Jz x n not).map (EI x)
def Ep (x:Bg) (n:Nat) (not:List Int):Bg:=⟨x.live,(Jz x n not).foldl EJ x.free⟩
theorem _root_.Go.Silo.Sl.Bv {α:Type}{T:TypeId}{E:Enc α}{w:World}{S:Nat→Prop}{b off n c:Nat}{xs:List α}(h:Sl true T E w S (some ⟨b,off,none⟩) n c xs) (hn:0<n):∃q,w.shape? b=some (T,q):=by
 obtain⟨b',off',e,_,_,ht,_⟩:=h.2.2.2 hn;injection e with e;injection e with e1 e2 _;subst e1
 exact ht rfl
theorem _root_.Go.Silo.Be.CE {T:TypeId}{w:World}{base:Nat}{S S':Nat→Prop}{A:Option Addr}{n c:Nat}{xs:List Int}(h:Be T Bd w base S A n c xs):Be T Bd w base S' A n c xs:=by
 obtain⟨cells,ho,hl,hk⟩:=h;exact⟨cells,ho,hl,hk⟩
def JA (S:Nat→Prop) (w:World) (x:Bg) (n:Nat) (not:List Int) (A1:Option Addr) (n1 c1:Nat) (e:Ending) (w':World):Prop:=
 (xN x n not≠0∧e=.returned (.tuple #[.slice none 0 0,.int .i64 (xN x n not)])∧Below w.heap.size w w')∨
 (xN x n not=0∧∃A c,e=.returned (.tuple #[.slice A n c,.int .i64 0])∧(Xu x n not).length=n∧Be 88 qz w' w.heap.size (fun b=>w.heap.size≤b) A n c (Xu x n not)∧
  Sl true 36 (Cg true 3 Bd) w' S A1 n1 c1 (Ep x n not).free∧Bw S 36 w w')
end Go.Proofs.YtipecejghioicaaGreat
namespace Go.Silo
open Go Go.RowKit
def JB (fn:FuncId) (tmps:Array Value) (ps:Array Tmp) (assign body:Code) (D:Nat) (st:LoopState) (pe:Option Code):Loop:=
 {state:=st,pending:=pe,fn:=fn,tmps:=tmps,params:=ps,assign:=assign,body:=body,defers:=D}
def De (R:LoopState→Option Code→Loop) (B:Nat) (st:LoopState) (pe:Option Code) (W:World):Prop:=
 W.heap[B+1]?=some (.loop (R st pe))∧W.heap[B]?=some (.deferred (some []))
section
variable {fn:FuncId}{tmps:Array Value}{ps:Array Tmp}{assign body:Code}{D B:Nat}{st:LoopState}{pe:Option Code}{W:World}
theorem De.turn (h:De (JB fn tmps ps assign body D) B st pe W) (st':LoopState) (pe':Option Code):
  De (JB fn tmps ps assign body D) B st' pe' (W.putObj (B+1) (.loop (JB fn tmps ps assign body D st' pe'))):=
 ⟨World.putObj_heap_same (zl h.1),(World.putObj_heap_other (by omega)).trans h.2⟩
end
end Go.Silo
namespace Go.Silo
open Go Go.RowKit
theorem QN {p:Nat→Prop}:(∃m,p m)→∃m,p m∧∀k,p k→m≤k:=by
 rintro⟨m,hm⟩
 induction m using Nat.strongRecOn with
 |_ m ih=>
  by_cases h:∃k,k<m∧p k
  ·obtain⟨k,hk,hp⟩:=h;exact ih k hk hp
  exact⟨m,hm,fun k hk=>by
   rcases Nat.lt_or_ge k m with hlt|hge
   ·exact absurd ⟨k,hlt,hk⟩ h
   exact hge⟩
end Go.Silo
namespace Go.Proofs.YtipecejghioicaaGreat
open Go.RowKit Go.Silo Go.Shelf
attribute [local go_sem] Oper.semAt_some
def Xv (x:Bg) (k:Nat):Bg:=if xN x k []=0 then Ep x k [] else x
def jR (x:Bg) (k:Nat):Nat→Bg
 |0=>x
 |j+1=>Xv (jR x k j) k
structure XS (S:Nat→Prop) (g:Nat) (A0:Option Addr) (n0 c0:Nat) (A1:Option Addr) (n1 c1:Nat) (x:Bg) (W:World):Prop where
 row:W.heap[g]?=some (.cells #[.slice A0 n0 c0,.slice A1 n1 c1] 40 (0,0))
 live:Sl true 4 Bn W S A0 n0 c0 x.live
 free:Sl true 36 (Cg true 3 Bd) W S A1 n1 c1 x.free
section
variable {S:Nat→Prop}{g k:Nat}{A0 A1:Option Addr}{n0 c0 n1 c1:Nat}{x:Bg}{W W':World}
theorem XS.all (h:XS S g A0 n0 c0 A1 n1 c1 x W) (hb:Below W.heap.size W W'):XS S g A0 n0 c0 A1 n1 c1 x W':=
 ⟨zb hb h.row,h.live.all hb,h.free.all hb⟩
theorem XS.keep {S':Nat→Prop}(h:XS S g A0 n0 c0 A1 n1 c1 x W) (hk:Bj S' W W') (hS:∀b,S b∨b=g→S' b):XS S g A0 n0 c0 A1 n1 c1 x W':=
 have hk2:Bj S W W':=⟨hk.1.mono (fun b hb _=>hS b (.inl hb)),hk.2⟩
 ⟨(hk.1 g (hS g (.inr rfl)) (zl h.row)).trans h.row,h.live.keep hk2,h.free.keep hk2⟩
theorem XS.step {e:Ending}(h:XS S g A0 n0 c0 A1 n1 c1 x W) (hp:JA S W x k [] A1 n1 c1 e W'):
  XS S g A0 n0 c0 A1 n1 c1 (Xv x k) W'∧Bw S 36 W W':=by
 rcases hp with ⟨he,_,hb⟩|⟨he,A,c,_,_,_,hf,ht⟩
 ·unfold Xv;rw[if_neg he];exact⟨h.all hb,.of_below hb⟩
 unfold Xv;rw[if_pos he];exact⟨⟨ht.heap h.row (by decide),ht.sl (zH _) (by decide) h.live,hf⟩,ht⟩
end
def Handed (x:Bg) (k:Nat) (B:Nat) (pre:List (Value×Value)) (v:Value×Value) (W:World):Prop:=
 (xN (jR x k pre.length) k []≠0∧v=(.slice none 0 0,.int .i64 (xN (jR x k pre.length) k [])))∨
 (xN (jR x k pre.length) k []=0∧∃A c,v=(.slice A k c,.int .i64 0)∧(Xu (jR x k pre.length) k []).length=k∧Silo.Be 88 qz W B (fun b=>B≤b) A k c (Xu (jR x k pre.length) k []))
end Go.Proofs.YtipecejghioicaaGreat
