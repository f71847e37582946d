/- Rows that stand as they stood, by their element type; what fit.Lay answers. -/
import Derived.Test.YtipecejghioicaaGreatDatap
import Derived.Test.YtipecejghioicaaGreatE2p
import Derived.Lib.SliceRun
import Derived.Deep.RegionLaw
import Derived.Deep.DeepMust
import Derived.Test.YtipecejghioicaaGreatQ4p
import Derived.StillTailTactics
import Derived.RangeFuncNested
import Derived.RangeFuncLeaves
import Derived.RangeFuncCalls
import Derived.OwnWalkIn
import Derived.TacticsInMore
import Derived.LoopNIn
import Derived.LoopIn
import Derived.WalkKit
import Derived.Shelf.Abstract
import Derived.Shelf.RegionOpen
namespace Go.Silo
open Go.RowKit
theorem jG (w:World) (p:Addr) (v:Value) (b:Nat):(w.setCell p v).shape? b=w.shape? b:=by
 simp only[World.shape?,World.setCell,Array.getElem?_modify];by_cases h:p.block=b
 ·subst h;simp only[if_true]
  cases hh:w.heap[p.block]? with
  |none=>rfl
  |some o=>cases o<;>simp<;>(try (split<;>simp))
 rw[if_neg h]
theorem Sl.set1 {α:Type}{T:TypeId}{E:Enc α}{w:World}{S:Nat→Prop}{b off n c:Nat}{xs:List α}(h:Sl true T E w S (some ⟨b,off,none⟩) n c xs) (hsz:E.sz=1) (hE:E.BS T) {k:Nat}(hk:k<n) {v:Value}{y:α}(hy:E.R w S [v] y):
  Sl true T E (w.setCell ⟨b,off+k,none⟩ v) S (some ⟨b,off,none⟩) n c (xs.set k y):=by
 obtain⟨h1,h2,h3,h4⟩:=h;obtain⟨b',off',e,hb,hlt,ht,hx⟩:=h4 (by omega);injection e with e;injection e with e1 e2 _;subst e1;subst e2
 obtain⟨q,hq⟩:=ht rfl;have hA:∀i,S i→i<w.heap.size→(∀k,w.shape? i≠some (T,k))→(w.setCell ⟨b,off+k,none⟩ v).heap[i]?=w.heap[i]?:=fun i _ _ hn=>Below.heap_setCell w _ v i (fun e=>by simp at e;subst e;exact hn q hq);refine⟨by rw[List.length_set];exact h1,h2,h3,fun hn=>⟨b,off,rfl,hb,by simpa using hlt,fun _=>⟨q,by rw[jG];exact hq⟩,fun j z hj=>?_⟩⟩;have hjl:=(List.getElem?_eq_some_iff.1 hj).1;rw[List.length_set] at hjl;rw[hsz,Nat.mul_one];by_cases hjk:j=k
 ·subst hjk;rw[List.getElem?_set_self (by omega)] at hj;injection hj with hj
  subst hj;refine⟨[v],hE hA (by simp) hy,fun i u hi=>?_⟩
  match i,hi with
  |0,hi=>
   simp at hi;subst hi;obtain⟨z0,hz0⟩:∃z0,xs[j]?=some z0:=⟨_,List.getElem?_eq_getElem (by omega)⟩;obtain⟨vs,hv,hc⟩:=hx j z0 hz0;have hvl:=E.len hv;rw[hsz] at hvl;obtain⟨u0,hu0⟩:∃u0,vs[0]?=some u0:=⟨_,List.getElem?_eq_getElem (by omega)⟩;have:=hc 0 u0 hu0;rw[hsz,Nat.mul_one,Nat.add_zero] at this;rw[Nat.add_zero];exact⟨World.cell?_setCell_same _ _ _ this.1,by rw[World.frozen?_setCell];exact this.2⟩
 rw[List.getElem?_set_ne (Ne.symm hjk)] at hj;obtain⟨vs,hv,hc⟩:=hx j z hj;have hvl:=E.len hv;rw[hsz] at hvl;refine⟨vs,hE hA (by simp) hv,fun i u hi=>?_⟩;have hi0:i=0:=by have:=(List.getElem?_eq_some_iff.1 hi).1;omega
 subst hi0;have:=hc 0 u hi;rw[hsz,Nat.mul_one] at this;exact⟨by rw[World.cell?_setCell_other _ _ _ _ (by simp<;>omega)];exact this.1,by rw[World.frozen?_setCell];exact this.2⟩
structure BM (S:Nat→Prop) (T:TypeId) (w w':World):Prop where
 os:w'.os=w.os
 tape:w'.tape=w.tape
 output:w'.output=w.output
 size:w.heap.size≤w'.heap.size
 block:∀b,b<w.heap.size→(¬S b∨∀k,w.shape? b≠some (T,k))→w'.heap[b]?=w.heap[b]?
 shape:∀b,b<w.heap.size→w'.shape? b=w.shape? b
section
variable {S:Nat→Prop}{T:TypeId}{w w' w'':World}
theorem BM.refl (S:Nat→Prop) (T:TypeId) (w:World):BM S T w w:=⟨rfl,rfl,rfl,Nat.le_refl _,fun _ _ _=>rfl,fun _ _=>rfl⟩
theorem BM.trans (h:BM S T w w') (k:BM S T w' w''):BM S T w w'':=
 ⟨k.os.trans h.os,k.tape.trans h.tape,k.output.trans h.output,Nat.le_trans h.size k.size,fun b hb hn=>(k.block b (Nat.lt_of_lt_of_le hb h.size) (hn.imp id (fun hh i=>by rw[h.shape b hb];exact hh i))).trans (h.block b hb hn),fun b hb=>(k.shape b (Nat.lt_of_lt_of_le hb h.size)).trans (h.shape b hb)⟩
theorem BM.of_below (h:Below w.heap.size w w'):BM S T w w':=⟨h.os,h.tape,h.output,h.size,fun b hb _=>h.block b hb,fun b hb=>zO (h.block b hb)⟩
theorem BM.call (h:BM S T w w') (k:Below w'.heap.size w' w''):BM S T w w'':=h.trans (.of_below k)
theorem BM.alloc (h:BM S T w w') (o:Obj):BM S T w (w'.alloc o):=h.call ((Below.refl _ _).alloc (Nat.le_refl _) _)
theorem BM.drew (h:BM S T w w'):BM S T w w'.drew:=⟨h.os,h.tape,h.output,h.size,h.block,h.shape⟩
theorem BM.drewN (h:BM S T w w') (n:Nat):BM S T w (w'.drewN n):=⟨h.os,h.tape,h.output,h.size,h.block,h.shape⟩
theorem BM.setCell (h:BM S T w w') {p:Addr}{k:Nat}(hS:S p.block) (hT:w'.shape? p.block=some (T,k)) (v:Value):BM S T w (w'.setCell p v):=
 ⟨h.os,h.tape,h.output,by simpa using h.size,fun b hb hn=>(Below.heap_setCell w' p v b (fun e=>by
  subst e;rcases hn with hn|hn
  ·exact hn hS
  exact hn k ((h.shape _ hb).symm.trans hT))).trans (h.block b hb hn),fun b hb=>(jG w' p v b).trans (h.shape b hb)⟩
theorem BM.grown (h:BM S T w w') {row:Option Nat}(hg:w'.grownBy w'' row) (hr:∀r,row=some r→w.heap.size≤r):BM S T w w'':=by
 refine⟨hg.os.trans h.os,hg.tape.trans h.tape,hg.output.trans h.output,Nat.le_trans h.size hg.size,fun b hb hn=>(hg.block b (Nat.lt_of_lt_of_le hb h.size) (fun e=>by have:=hr b e.symm;omega)).trans (h.block b hb hn),fun b hb=>?_⟩;rw[zO (hg.block b (Nat.lt_of_lt_of_le hb h.size) (fun e=>by have:=hr b e.symm;omega))];exact h.shape b hb
theorem BM.below (h:BM S T w w') {B:Nat}(hB:B≤w.heap.size) (hS:∀b,S b→B≤b):Below B w w':=⟨h.os,h.tape,h.output,h.size,fun b hb=>h.block b (by omega) (.inl fun hs=>by have:=hS b hs;omega)⟩
theorem BM.sl {α:Type}{E:Enc α}{T':TypeId}{S':Nat→Prop}{A:Option Addr}{n c:Nat}{xs:List α}(h:BM S T w w') (hE:E.BS T) (hT:T'≠T) (hs:Sl true T' E w S' A n c xs):Sl true T' E w' S' A n c xs:=
 hs.Ca hE hT (fun b _ hlt hn=>h.block b hlt (.inr hn)) h.size
theorem BM.heap (h:BM S T w w') {b:Nat}{cs:Array Value}{T':TypeId}{fr:Nat×Nat}(hb:w.heap[b]?=some (.cells cs T' fr)) (hT:T'≠T):w'.heap[b]?=some (.cells cs T' fr):=by
 rw[h.block b (zl hb) (.inr fun k e=>by rw[qw hb] at e;injection e with e;injection e with e _;exact hT e)];exact hb
end
theorem QX (T:TypeId):Cf.BS T:=BS.flat
theorem Sl.tail {α:Type}{tg:Bool}{T:TypeId}{E:Enc α}{w:World}{S:Nat→Prop}{b off n c:Nat}{xs:List α}(h:Sl tg T E w S (some ⟨b,off,none⟩) n c xs) (hn:0<n) (hsz:E.sz=1):
  Sl tg T E w S (some (if c=1 then ⟨b,off,none⟩ else ⟨b,off+1,none⟩)) (n - 1) (c - 1) xs.tail:=by
 obtain⟨h1,h2,h3,h4⟩:=h;refine⟨by rw[List.length_tail];omega,by omega,by omega,fun uB=>?_⟩;obtain⟨b',off',e,hb,hlt,ht,hx⟩:=h4 hn;injection e with e;injection e with e1 e2 _;subst e1;subst e2
 rw[if_neg (by omega)];refine⟨b,off+1,rfl,hb,hlt,ht,fun k x hk=>?_⟩;rw[List.getElem?_tail] at hk;obtain⟨vs,hv,hc⟩:=hx (k+1) x hk;refine⟨vs,hv,fun j v hj=>?_⟩;have:=hc j v hj;rw[hsz,Nat.mul_one] at this⊢
 rwa [show off+1+k+j=off+(k+1)+j from by omega]
end Go.Silo
set_option maxHeartbeats 400000
namespace Go.Proofs.YtipecejghioicaaGreat
open Go.RowKit Go.Silo
def ja {α:Type}(T:TypeId) (E:Enc α) (w:World) (S:Nat→Prop) (xs:List α) (e:Ending) (w':World):Prop:=
 ∃A c,e=.returned (.slice A xs.length c)∧Bo T E w' w.heap.size S A xs.length c xs∧Below w.heap.size w w'
theorem kn {tg:Bool}{T:TypeId}{S:Nat→Prop}{w:World}{A:Option Addr}{n c:Nat}{xs:List (Int)}(h:Sl tg T qD w S A n c xs) (hn:n≤100000000):
  Calls Tryz.prog 95 #[.slice A n c] w (qF 3 qD w xs):=by
 obtain⟨i0,hi,hz0,hz1,hz2⟩:=info_parts Tryz.D8;have HL:=zh h.len;have hq:=fun W:World=>Lib.run_eql_slice_nil (P:=Tryz.prog) W 36 3 A n c 0 0 Tryz.underlying36
 cases A with
 |none=>
  go_enter Tryz.func95,Tryz.ntmps95
  go_wp2
  go_ret
  have hn0:n=0:=by
   rcases Nat.eq_zero_or_pos n with h0|h0
   ·exact h0
   obtain⟨_,_,e,_⟩:=h.2.2.2 h0;cases e
  subst hn0;obtain rfl:xs=[]:=List.eq_nil_of_length_eq_zero HL.out;exact⟨none,0,rfl,Bo.Bz,Below.refl _ _⟩
 |some ad=>
  have pV:Bo 3 qD (w.alloc (.cells #[] 3)) w.heap.size (fun b=>w.heap.size≤b) (some ⟨w.heap.size,0,none⟩) 0 0 []:=Bo.lit [] [] 0 (Nat.le_refl _) (by omega) (by simp) rfl (fun k y hy=>by simp at hy);have hsl:=(h.Bd).frame (Agree.alloc _ w (.cells #[] 3)) (by simp);rcases Nat.eq_zero_or_pos n with h0|h0
  ·subst h0;obtain rfl:xs=[]:=List.eq_nil_of_length_eq_zero HL.out
   go_enter Tryz.func95,Tryz.ntmps95
   go_wp2_with (at_builtin;refine zy rfl _ _ 36 rfl i0 (.int .i64 0) 8 Tryz.underlying36 hi hz0 hz1 hz2 rfl (by decide) rfl pV ad 0 _ [] [] rfl (by simp) (fun j u hj=>by simp at hj) rfl (fun k y hy=>by simp at hy) (fun u hu=>by simp at hu) (by omega) (by omega) (by simp) ?_)
   intro A2 c2 w2 hown2 hg2 _;go_wp2
   go_ret
   exact⟨A2,c2,rfl,hown2,((Below.refl _ w).alloc (Nat.le_refl _) _).grown hg2 (by simp) (fun k hk=>by simp[qd] at hk;omega)⟩
  obtain⟨b,off,e,_⟩:=h.2.2.2 h0;injection e with e
  subst e
  go_enter Tryz.func95,Tryz.ntmps95
  go_wp2_with (at_builtin;refine qB rfl _ _ 36 rfl i0 (.int .i64 0) 8 Tryz.underlying36 hi hz0 hz1 hz2 rfl (by decide) rfl pV rfl hsl (fun vs y _ hR=>hR) (by omega) (by omega) (by simp) ?_)
  intro A2 c2 w2 hown2 hg2 _
  try simp only[Nat.zero_add,List.nil_append] at hown2
  have e1:=HL.out;subst e1;go_wp2
  go_ret
  exact⟨A2,c2,by simp,hown2,((Below.refl _ w).alloc (Nat.le_refl _) _).grown hg2 (by simp) (fun k hk=>by simp[qd] at hk;omega)⟩
def upto (n:Nat):List Int:=(List.range n).map (fun i:Nat=>(i:Int))
end Go.Proofs.YtipecejghioicaaGreat
namespace Go.Proofs.YtipecejghioicaaGreat
open Go.RowKit Go.Silo
def room (x:BQ) (d:Int):Int:=((x.free.getD d.toNat []).length:Int)
end Go.Proofs.YtipecejghioicaaGreat
namespace Go.Proofs.YtipecejghioicaaGreat
open Go.RowKit Go.Silo
def ET (live:List Bool) (not:List Int) (k:Nat):List Int:=(upto k).filter (fun d=>live.getD d.toNat false&&!decide (d∈not))
def JR (x:BQ) (not:List Int):List Int:=ET x.live not x.live.length
def ZD (x:BQ) (l:List Int):List Int:=l.filter (fun d=>decide (0<room x d))
def JS (x:BQ) (n:Nat) (not:List Int):List Int:=(ER (room x) (ZD x (JR x not))).take n
def EU (x:BQ) (d:Int):Slot:=⟨d,(x.free.getD d.toNat []).getD 0 0⟩
def EW (f:List (List Int)) (d:Int):List (List Int):=f.set d.toNat (f.getD d.toNat []).tail
def ji (x:BQ) (n:Nat) (not:List Int):Int:=if (JR x not).length<n then 6 else if (ZD x (JR x not)).length<n then 5 else 0
def XJ (x:BQ) (n:Nat) (not:List Int):List Slot:=(JS x n not).map (EU x)
def Ez (x:BQ) (n:Nat) (not:List Int):BQ:=⟨x.live,(JS x n not).foldl EW x.free⟩
theorem _root_.Go.Silo.Sl.BL {α:Type}{T:TypeId}{E:Enc α}{w:World}{S:Nat→Prop}{b off n c:Nat}{xs:List α}(h:Sl true T E w S (some ⟨b,off,none⟩) n c xs) (hn:0<n):∃q,w.shape? b=some (T,q):=by
 obtain⟨b',off',e,_,_,ht,_⟩:=h.2.2.2 hn;injection e with e;injection e with e1 e2 _;subst e1
 exact ht rfl
def JT (S:Nat→Prop) (w:World) (x:BQ) (n:Nat) (not:List Int) (A1:Option Addr) (n1 c1:Nat) (e:Ending) (w':World):Prop:=
 (ji x n not≠0∧e=.returned (.tuple #[.slice none 0 0,.int .i64 (ji x n not)])∧Below w.heap.size w w')∨
 (ji x n not=0∧∃A c,e=.returned (.tuple #[.slice A n c,.int .i64 0])∧(XJ x n not).length=n∧Bo 88 qp w' w.heap.size (fun b=>w.heap.size≤b) A n c (XJ x n not)∧
  Sl true 36 (Dj true 3 qD) w' S A1 n1 c1 (Ez x n not).free∧BM S 36 w w')
end Go.Proofs.YtipecejghioicaaGreat
namespace Go.Silo
open Go Go.RowKit
def JU (fn:FuncId) (tmps:Array Value) (ps:Array Tmp) (assign body:Code) (D:Nat) (st:LoopState) (pe:Option Code):Loop:=
 {state:=st,pending:=pe,fn:=fn,tmps:=tmps,params:=ps,assign:=assign,body:=body,defers:=D}
def Dl (R:LoopState→Option Code→Loop) (B:Nat) (st:LoopState) (pe:Option Code) (W:World):Prop:=
 W.heap[B+1]?=some (.loop (R st pe))∧W.heap[B]?=some (.deferred (some []))
section
variable {fn:FuncId}{tmps:Array Value}{ps:Array Tmp}{assign body:Code}{D B:Nat}{st:LoopState}{pe:Option Code}{W:World}
theorem Dl.turn (h:Dl (JU fn tmps ps assign body D) B st pe W) (st':LoopState) (pe':Option Code):
  Dl (JU fn tmps ps assign body D) B st' pe' (W.putObj (B+1) (.loop (JU fn tmps ps assign body D st' pe'))):=
 ⟨World.putObj_heap_same (zl h.1),(World.putObj_heap_other (by omega)).trans h.2⟩
end
end Go.Silo
namespace Go.Silo
open Go Go.RowKit
theorem QY {p:Nat→Prop}:(∃m,p m)→∃m,p m∧∀k,p k→m≤k:=by
 rintro⟨m,hm⟩
 induction m using Nat.strongRecOn with
 |_ m ih=>
  by_cases h:∃k,k<m∧p k
  ·obtain⟨k,hk,hp⟩:=h;exact ih k hk hp
  exact⟨m,hm,fun k hk=>by
   rcases Nat.lt_or_ge k m with hlt|hge
   ·exact absurd ⟨k,hlt,hk⟩ h
   exact hge⟩
end Go.Silo
namespace Go.Proofs.YtipecejghioicaaGreat
open Go.RowKit Go.Silo Go.Shelf
attribute [local go_sem] Oper.semAt_some
def XK (x:BQ) (k:Nat):BQ:=if ji x k []=0 then Ez x k [] else x
def ko (x:BQ) (k:Nat):Nat→BQ
 |0=>x
 |j+1=>XK (ko x k j) k
structure XS (S:Nat→Prop) (g:Nat) (A0:Option Addr) (n0 c0:Nat) (A1:Option Addr) (n1 c1:Nat) (x:BQ) (W:World):Prop where
 row:W.heap[g]?=some (.cells #[.slice A0 n0 c0,.slice A1 n1 c1] 40 (0,0))
 live:Sl true 4 Cf W S A0 n0 c0 x.live
 free:Sl true 36 (Dj true 3 qD) W S A1 n1 c1 x.free
section
variable {S:Nat→Prop}{g k:Nat}{A0 A1:Option Addr}{n0 c0 n1 c1:Nat}{x:BQ}{W W':World}
theorem XS.all (h:XS S g A0 n0 c0 A1 n1 c1 x W) (hb:Below W.heap.size W W'):XS S g A0 n0 c0 A1 n1 c1 x W':=
 ⟨zb hb h.row,h.live.all hb,h.free.all hb⟩
theorem XS.keep {S':Nat→Prop}(h:XS S g A0 n0 c0 A1 n1 c1 x W) (hk:Bg S' W W') (hS:∀b,S b∨b=g→S' b):XS S g A0 n0 c0 A1 n1 c1 x W':=
 have hk2:Bg S W W':=⟨hk.1.mono (fun b hb _=>hS b (.inl hb)),hk.2⟩
 ⟨(hk.1 g (hS g (.inr rfl)) (zl h.row)).trans h.row,h.live.keep hk2,h.free.keep hk2⟩
theorem XS.step {e:Ending}(h:XS S g A0 n0 c0 A1 n1 c1 x W) (hp:JT S W x k [] A1 n1 c1 e W'):
  XS S g A0 n0 c0 A1 n1 c1 (XK x k) W'∧BM S 36 W W':=by
 rcases hp with ⟨he,_,hb⟩|⟨he,A,c,_,_,_,hf,ht⟩
 ·unfold XK;rw[if_neg he];exact⟨h.all hb,.of_below hb⟩
 unfold XK;rw[if_pos he];exact⟨⟨ht.heap h.row (by decide),ht.sl (QX _) (by decide) h.live,hf⟩,ht⟩
end
def Handed (x:BQ) (k:Nat) (B:Nat) (pre:List (Value×Value)) (v:Value×Value) (W:World):Prop:=
 (ji (ko x k pre.length) k []≠0∧v=(.slice none 0 0,.int .i64 (ji (ko x k pre.length) k [])))∨
 (ji (ko x k pre.length) k []=0∧∃A c,v=(.slice A k c,.int .i64 0)∧(XJ (ko x k pre.length) k []).length=k∧Silo.Bo 88 qp W B (fun b=>B≤b) A k c (XJ (ko x k pre.length) k []))
end Go.Proofs.YtipecejghioicaaGreat
set_option maxHeartbeats 2000000
set_option maxRecDepth 100000
namespace Go.Silo
open Go Go.RowKit
end Go.Silo
namespace Go.Proofs.YtipecejghioicaaGreat
open Go.RowKit Go.Silo
def zJ (s:Shape) (n:Int):Nat:=((n+s.K* s.size - 1) / (s.K* s.size)).toNat
theorem EX {w:World}{s:Shape}{n:Int}(hs:qt s=true) (h0:0≤n) (h1:n≤100000):
  Calls Tryz.prog 111 #[.agg #[.int .i64 s.K,.int .i64 s.M,.int .i64 s.size],.int .i64 n] w (Bf (.int .i64 (zJ s n:Int)) w):=by
 unfold qt at hs;have hd:=of_decide_eq_true hs;clear hs;obtain⟨k1,k2,_,_,s1,s2⟩:=hd;have p1:1≤s.K* s.size:=by have:=Int.mul_le_mul k1 s1 (by omega) (by omega);omega
 have p2:s.K* s.size≤960:=by have:=Int.mul_le_mul k2 s2 (by omega) (by omega);omega
 have hq:(zJ s n:Int)=(n+s.K* s.size - 1) / (s.K* s.size):=by
  unfold zJ;exact Int.toNat_of_nonneg (Int.ediv_nonneg (by omega) (by omega))
 have HQ:=zh hq;clear hq
 go_enter Tryz.func111,Tryz.ntmps111
 go_wp2
 go_ret
 exact⟨by rw[HQ.out];rfl,bz⟩
theorem xr {w:World}{s:Shape}{n:Int}(hs:qt s=true) (h0:0≤n) (h1:n≤100000):
  Calls Tryz.prog 50 #[.agg #[.int .i64 s.K,.int .i64 s.M,.int .i64 s.size],.int .i64 n] w (Bf (.int .i64 (zJ s n:Int)) w):=by
 unfold qt at hs;have hd:=of_decide_eq_true hs;clear hs;obtain⟨k1,k2,_,_,s1,s2⟩:=hd;have p1:1≤s.K* s.size:=by have:=Int.mul_le_mul k1 s1 (by omega) (by omega);omega
 have p2:s.K* s.size≤960:=by have:=Int.mul_le_mul k2 s2 (by omega) (by omega);omega
 have hq:(zJ s n:Int)=(n+s.K* s.size - 1) / (s.K* s.size):=by
  unfold zJ;exact Int.toNat_of_nonneg (Int.ediv_nonneg (by omega) (by omega))
 have HQ:=zh hq;clear hq
 go_enter Tryz.func50,Tryz.ntmps50
 go_wp2
 go_ret
 exact⟨by rw[HQ.out];rfl,bz⟩
end Go.Proofs.YtipecejghioicaaGreat
namespace Go.Silo
open Go Go.RowKit
structure CK (X:TypeId→Prop) (W W':World):Prop where
 size:W.heap.size≤W'.heap.size
 row:∀(b:Nat) (cs:Array Value) (T:TypeId) (fr:Nat×Nat),X T→W.heap[b]?=some (.cells cs T fr)→W'.heap[b]?=some (.cells cs T fr)
section
variable {X Y:TypeId→Prop}{W W' W'':World}{S:Nat→Prop}{T:TypeId}
theorem CK.refl (X:TypeId→Prop) (W:World):CK X W W:=⟨Nat.le_refl _,fun _ _ _ _ _ h=>h⟩
theorem CK.trans (h:CK X W W') (k:CK X W' W''):CK X W W'':=⟨Nat.le_trans h.size k.size,fun b cs T fr hT hb=>k.row b cs T fr hT (h.row b cs T fr hT hb)⟩
theorem CK.mono (h:CK X W W') (hX:∀T,Y T→X T):CK Y W W':=⟨h.size,fun b cs T fr hT hb=>h.row b cs T fr (hX T hT) hb⟩
theorem CK.C8 {B:Nat}{row:Option Nat}(hg:W.grownBy W' row) (hr:∀r,row=some r→B≤r∧∃o:Obj,W.heap[r]?=some o∧o.isCells=false):CK X W W':=
 ⟨hg.size,fun b cs T fr _ h=>(hg.block b (zl h) (fun e=>by
  obtain⟨_,o,ho,hc⟩:=hr b e.symm;rw[h] at ho;injection ho with ho;subst ho
  cases hc)).trans h⟩
theorem CK.of_below (h:Below W.heap.size W W'):CK X W W':=⟨h.size,fun b _ _ _ _ hb=>(h.block b (zl hb)).trans hb⟩
theorem CK.grown {row:Option Nat}(hg:W.grownBy W' row) (hr:∀r,row=some r→∃k,W.shape? r=some (T,k)) (hX:¬X T):CK X W W':=
 ⟨hg.size,fun b cs T' fr hT h=>(hg.block b (zl h) (fun e=>by
  obtain⟨k,hk⟩:=hr b e.symm;rw[qw h] at hk;injection hk with hk;injection hk with hk _
  exact hX (hk▸hT))).trans h⟩
theorem CK.setCell {p:Addr}{k:Nat}(hs:W.shape? p.block=some (T,k)) (hX:¬X T) (v:Value):CK X W (W.setCell p v):=
 ⟨by simp,fun b cs T' fr hT h=>(Below.heap_setCell W p v b (fun e=>by
  subst e;rw[qw h] at hs;injection hs with hs;injection hs with hs _
  exact hX (hs▸hT))).trans h⟩
def Enc.Ch {α:Type}(E:Enc α) (X:TypeId→Prop):Prop:=∀{W W':World}{S:Nat→Prop}{vs:List Value}{x:α},CK X W W'→E.R W S vs x→E.R W' S vs x
theorem Ch.flat {α:Type}{sz:Nat}{f:α→List Value}{ok:α→Prop}{hl:∀x,(f x).length=sz}{h1:∀x,∀v∈f x,v.oneCell'=true}:(flat sz f ok hl h1).Ch X:=fun _ h=>h
theorem jr {b q:Nat}(h:W.shape? b=some (T,q)):∃cs fr,W.heap[b]?=some (.cells cs T fr):=by
 unfold World.shape? at h
 split at h
 ·rename_i c elem fr hh
  injection h with h;injection h with h _;subst h
  exact⟨_,_,hh⟩
 cases h
theorem CK.shape (h:CK X W W') {b q:Nat}(hT:X T) (hs:W.shape? b=some (T,q)):W'.heap[b]?=W.heap[b]?:=by
 obtain⟨cs,fr,hb⟩:=jr hs;rw[hb];exact h.row _ _ _ _ hT hb
theorem Sl.ck {α:Type}{E:Enc α}{A:Option Addr}{n c:Nat}{xs:List α}(hE:E.Ch X) (hT:X T) (h:Sl true T E W S A n c xs) (hk:CK X W W'):Sl true T E W' S A n c xs:=by
 obtain⟨h1,h2,h3,h4⟩:=h;refine⟨h1,h2,h3,fun hn=>?_⟩;obtain⟨b,off,e,hb,hlt,ht,hx⟩:=h4 hn;obtain⟨q,hq⟩:=ht rfl;have hbl:=hk.shape hT hq;refine⟨b,off,e,hb,Nat.lt_of_lt_of_le hlt hk.size,fun _=>⟨q,by rw[zO hbl];exact hq⟩,fun k x hx'=>?_⟩;obtain⟨vs,hv,hc⟩:=hx k x hx';refine⟨vs,hE hk hv,fun j v hj=>?_⟩;rw[World.cell?_of_block (w:=W) (a:=⟨b,_,none⟩) hbl,World.frozen?_of_block (w:=W) (a:=⟨b,_,none⟩) hbl];exact hc j v hj
theorem Ch.Dj {α:Type}{E:Enc α}(hE:E.Ch X) (hT:X T):(Dj true T E).Ch X:=by
 rintro W W' S vs x hk ⟨A,n,c,rfl,h⟩;exact⟨A,n,c,rfl,h.ck hE hT hk⟩
theorem Bo.ck {α:Type}{E:Enc α}{base:Nat}{A:Option Addr}{n c:Nat}{xs:List α}(hE:E.Ch X) (hT:X T) (h:Silo.Bo T E W base S A n c xs) (hk:CK X W W'):Silo.Bo T E W' base S A n c xs:=by
 obtain⟨cells,ho,hl,hx⟩:=h;refine⟨cells,⟨ho.1,?_⟩,hl,fun k x h=>hE hk (hx k x h)⟩;rcases ho.2 with h|⟨g,cap,cur,hv,hb,hh,r⟩
 ·exact .inl h
 exact .inr ⟨g,cap,cur,hv,hb,hk.row _ _ _ _ hT hh,r⟩
theorem Bo.shape {α:Type}{E:Enc α}{base:Nat}{A:Option Addr}{n c:Nat}{xs:List α}(h:Silo.Bo T E W base S A n c xs):∀r,qd A=some r→∃k,W.shape? r=some (T,k):=by
 obtain⟨cells,ho,_⟩:=h;intro r hr;rcases ho.2 with ⟨hv,_⟩|⟨g,cap,cur,hv,hb,hh,_⟩
 ·injection hv with h1 h2 h3;subst h1;cases hr
 injection hv with h1 h2 h3;subst h1;simp only[qd,Option.map_some] at hr;injection hr with hr;subst hr
 exact⟨_,qw hh⟩
end
structure BK (B:Nat) (Z:Nat→Prop) (X:TypeId→Prop) (W W':World):Prop where
 kf:KeepsFrom B W W'
 kp:Bg Z W W'
 ck:CK X W W'
section
variable {B:Nat}{Z:Nat→Prop}{X:TypeId→Prop}{W W' W'':World}
theorem BK.refl (B:Nat) (Z:Nat→Prop) (X:TypeId→Prop) (W:World):BK B Z X W W:=⟨.refl _ _,.refl _ _,.refl _ _⟩
theorem BK.grown {row:Option Nat}(h:BK B Z X W W') (hg:W'.grownBy W'' row) (hr:∀r,row=some r→(∃T k,W'.shape? r=some (T,k)∧¬X T)∧¬Z r):BK B Z X W W'':=by
 refine⟨h.kf.trans ⟨hg.size,fun k o _ hk ho=>(hg.block k (zl hk) (fun e=>?_)).trans hk⟩,⟨h.kp.1.trans h.kp.2 (Agree.grown hg fun b hb e=>(hr b e.symm).2 hb),Nat.le_trans h.kp.2 hg.size⟩,h.ck.trans ⟨hg.size,fun b cs T fr hT hb=>(hg.block b (zl hb) (fun e=>?_)).trans hb⟩⟩
 ·obtain⟨⟨T,q,hq,_⟩,_⟩:=hr k e.symm;obtain⟨cs,fr,hh⟩:=jr hq;rw[hk] at hh;injection hh with hh;subst hh
  cases ho
 obtain⟨⟨T',q,hq,hX⟩,_⟩:=hr b e.symm;rw[qw hb] at hq;injection hq with hq;injection hq with hq _
 exact hX (hq▸hT)
theorem BK.alloc (h:BK B Z X W W') (o:Obj):BK B Z X W (W'.alloc o):=h.grown (World.grownBy_alloc W' o none) (fun r e=>by cases e)
theorem BK.drew (h:BK B Z X W W'):BK B Z X W W'.drew:=⟨⟨h.kf.size,h.kf.same⟩,h.kp.drew,⟨h.ck.size,h.ck.row⟩⟩
theorem BK.setCell (h:BK B Z X W W') {p:Addr}{T:TypeId}{k:Nat}(hs:W'.shape? p.block=some (T,k)) (hX:¬X T) (hZ:¬Z p.block) (v:Value):BK B Z X W (W'.setCell p v):=by
 refine h.grown (row:=some p.block) ⟨rfl,rfl,rfl,by simp,fun j _ hj=>Below.heap_setCell W' p v j (fun e=>hj (by rw[e]))⟩ (fun r e=>?_);injection e with e;subst e
 exact⟨⟨T,k,hs,hX⟩,hZ⟩
end
end Go.Silo
namespace Go.Proofs.YtipecejghioicaaGreat
open Go.RowKit Go.Silo Go.Shelf
section
variable {S:Nat→Prop}{g k:Nat}{A0 A1:Option Addr}{n0 c0 n1 c1:Nat}{x:BQ}{W W':World}
theorem XS.ck {X:TypeId→Prop}(h:XS S g A0 n0 c0 A1 n1 c1 x W) (hk:CK X W W') (h1:X 40) (h2:X 4) (h3:X 36) (h4:X 3):XS S g A0 n0 c0 A1 n1 c1 x W':=
 ⟨hk.row _ _ _ _ h1 h.row,h.live.ck Ch.flat h2 hk,h.free.ck (Ch.Dj Ch.flat h4) h3 hk⟩
theorem Handed.ck {X:TypeId→Prop}{B:Nat}{pre:List (Value×Value)}{v:Value×Value}(h:Handed x k B pre v W) (hk:CK X W W') (h1:X 88):Handed x k B pre v W':=by
 rcases h with h|⟨a,A,c,e,l,o⟩
 ·exact .inl h
 exact .inr ⟨a,A,c,e,l,o.ck Ch.flat h1 hk⟩
end
end Go.Proofs.YtipecejghioicaaGreat
