import Derived.Test.YtipecejghioicaaGreatJ22v
import Derived.Test.YtipecejghioicaaGreatJ23v
import Derived.Shelf.Slices.Empties
import Derived.Shelf.Spec.SlicesInsertGrow
namespace Go.Proofs.YtipecejghioicaaGreat
open Go.RowKit Go.Silo
theorem ZG {tg:Bool}{S:Nat→Prop}{w:World}{A0 A1 A2 A3 A4:Option Addr}{n0 c0 n1 c1 n2 c2 n3 c3 n4 c4:Nat}{q:zn}(hB:zB q) (hsi:Bg q.s.K∧Bg q.s.M∧Bg q.s.size) (hb:Bl w S tg tg tg tg A0 n0 c0 A1 n1 c1 A2 n2 c2 q.b) (hl:Sl tg 61 (qi tg) w S A3 n3 c3 q.l) (hv:Sl tg 4 BU w S A4 n4 c4 q.live):
  Calls Tryz.prog 5 #[.agg #[.int .i64 q.s.K,.int .i64 q.s.M,.int .i64 q.s.size,.slice A0 n0 c0,.slice A1 n1 c1,.slice A2 n2 c2,.int .i64 q.b.next,.slice A3 n3 c3,.slice A4 n4 c4,.int .i64 q.n]] w (Bh (.bool true) w):=by
 cases h:qo q.s with
 |false=>exact Zs hB hsi hb hl hv h
 |true=>exact QD hB hsi hb hl hv h
structure D8 (top:Nat) (ys:List (List Int×Nat×Nat)) (xs:List (List Int)):Prop where
 lists:ys.map (·.1)=xs
 apart:ys.Pairwise (fun a b=>a.2.2≤b.2.1)
 top:∀y∈ys,y.2.2≤top
theorem D8.nil {t:Nat}:D8 t [] []:=⟨rfl,.nil,by simp⟩
theorem D8.snoc {t t' lo hi:Nat}{ys xs}{l:List Int}(h:D8 t ys xs) (hlo:t≤lo) (hlh:lo≤hi) (hhi:hi≤t'):D8 t' (ys++[(l,lo,hi)]) (xs++[l]):=by
 refine⟨by rw[List.map_append,h.1];rfl,List.pairwise_append.2 ⟨h.2,List.pairwise_singleton _ _,?_⟩,?_⟩
 ·intro a ha b hb;rw[List.mem_singleton] at hb;subst hb;exact Nat.le_trans (h.3 a ha) hlo
 intro y hy;rcases List.mem_append.1 hy with hy|hy
 ·exact Nat.le_trans (h.3 y hy) (by omega)
 rw[List.mem_singleton] at hy;subst hy;exact hhi
end Go.Proofs.YtipecejghioicaaGreat
namespace Go.Proofs
open Go.Shelf Go.Lib Go.RowKit
end Go.Proofs
namespace Go.Proofs.YtipecejghioicaaGreat
open Go.RowKit Go.Silo Go.Lib
def Fu (i:Nat) (x:Int) (l:List Int):List Int:=l.take i++x::l.drop i
end Go.Proofs.YtipecejghioicaaGreat
namespace Go.Proofs.YtipecejghioicaaGreat
open Go.RowKit Go.Silo
def NF (base n k0 k1:Nat) (A0:Option Addr) (c0:Nat) (A1:Option Addr) (c1:Nat) (w:World):Prop:=
 Bj 4 BU w base (fun _=>False) A0 k0 c0 (List.replicate k0 true)∧
 ∃S:Nat→Prop,Bj 36 (Dm true 3 Bo) w base S A1 k1 c1 (List.replicate k1 (upto n))∧(∀b,S b→base≤b∧b<w.heap.size∧some b≠qd A0)∧(∀b,qd A0=some b→qd A1≠some b)
theorem NF.frame {base n k0 k1:Nat}{A0 A1:Option Addr}{c0 c1:Nat}{w w':World}(h:NF base n k0 k1 A0 c0 A1 c1 w) (ha:∀b,base≤b→b<w.heap.size→w'.heap[b]?=w.heap[b]?) (hs:w.heap.size≤w'.heap.size):NF base n k0 k1 A0 c0 A1 c1 w':=by
 obtain⟨h0,S,h1,h2,h3⟩:=h;refine⟨h0.frame (fun b hb hlt=>?_) hs,S,h1.frame (fun b hb hlt=>?_) hs,fun b hb=>?_,h3⟩
 ·rcases hb with hb|hb
  ·exact hb.elim
  exact ha b (h0.lt b hb.symm).1 hlt
 ·rcases hb with hb|hb
  ·exact ha b (h2 b hb).1 hlt
  exact ha b (h1.lt b hb.symm).1 hlt
 have:=h2 b hb;exact⟨this.1,by omega,this.2.2⟩
theorem NF.live {base n k0 k1:Nat}{A0 A1 A0':Option Addr}{c0 c1 c0':Nat}{w w':World}(h:NF base n k0 k1 A0 c0 A1 c1 w) (ho:Bj 4 BU w' base (fun _=>False) A0' (k0+1) c0' (List.replicate k0 true++[true])) (hg:w.grownBy w' (qd A0))
  (hat:qd A0'=qd A0∨qd A0'=some w.heap.size):NF base n (k0+1) k1 A0' c0' A1 c1 w':=by
 obtain⟨h0,S,h1,h2,h3⟩:=h;rw[←List.replicate_succ'] at ho;refine⟨ho,S,h1.frame (fun b hb hlt=>?_) hg.size,fun b hb=>?_,fun b hb=>?_⟩
 ·refine hg.block b hlt ?_;rcases hb with hb|hb
  ·exact(h2 b hb).2.2
  exact fun e=>h3 b e.symm hb.symm
 ·have:=h2 b hb;refine⟨this.1,by have:=hg.size;omega,?_⟩;rcases hat with e|e
  ·rw[e];exact this.2.2
  rw[e];intro e2;injection e2 with e2;omega
 rcases hat with e|e
 ·exact h3 b (e.symm.trans hb)
 intro e2;have:=(h1.lt b e2).2;rw[e] at hb;injection hb with hb
 omega
theorem NF.free {base n k0 k1:Nat}{A0 A1 A1':Option Addr}{c0 c1':Nat}{w w':World}{S:Nat→Prop}(h0:Bj 4 BU w base (fun _=>False) A0 k0 c0 (List.replicate k0 true)) (h2:∀b,S b→base≤b∧b<w.heap.size∧some b≠qd A0) (h3:∀b,qd A0=some b→qd A1≠some b)
  (ho:Bj 36 (Dm true 3 Bo) w' base S A1' (k1+1) c1' (List.replicate k1 (upto n)++[upto n])) (hg:w.grownBy w' (qd A1))
  (hat:qd A1'=qd A1∨qd A1'=some w.heap.size):NF base n k0 (k1+1) A0 c0 A1' c1' w':=by
 rw[←List.replicate_succ'] at ho;refine⟨h0.frame (fun b hb hlt=>?_) hg.size,S,ho,fun b hb=>?_,fun b hb=>?_⟩
 ·rcases hb with hb|hb
  ·exact hb.elim
  exact hg.block b hlt (fun e=>h3 b hb.symm e.symm)
 ·have:=h2 b hb;exact⟨this.1,by have:=hg.size;omega,this.2.2⟩
 rcases hat with e|e
 ·rw[e];exact h3 b hb
 rw[e];intro e2;injection e2 with e2
 have:=(h0.lt b hb).2;omega
theorem Ic (w:World) (o0:Obj) (c1:Array Value) (T1:TypeId):((w.alloc o0).alloc (.cells c1 T1)).heap[w.heap.size+1]?=some (.cells c1 T1 (0,0)):=by
 have e1:(w.alloc o0).heap.size=w.heap.size+1:=by simp
 rw[←e1];exact heap_alloc_new _ _
theorem yO (w:World) (o1:Obj) (c0:Array Value) (T0:TypeId):((w.alloc (.cells c0 T0)).alloc o1).heap[w.heap.size]?=some (.cells c0 T0 (0,0)):=by
 rw[Below.heap_alloc _ _ _ (by simp)];exact heap_alloc_new _ _
theorem _root_.Go.Silo.Sl.drop {α:Type}{tg:Bool}{T:TypeId}{E:Enc α}{w:World}{S:Nat→Prop}{b off n c:Nat}{xs:List α}(h:Sl tg T E w S (some ⟨b,off,none⟩) n c xs) (hsz:E.sz=1) {k:Nat}(hk:k<n):Sl tg T E w S (some ⟨b,off+k,none⟩) (n - k) (c - k) (xs.drop k):=by
 obtain⟨h1,h2,h3,h4⟩:=h;refine⟨by rw[List.length_drop];omega,by omega,by omega,fun _=>?_⟩;obtain⟨b',off',e,hb,hl,ht,hc⟩:=h4 (by omega);injection e with e;injection e with e1 e2 _;subst e1;subst e2
 refine⟨b,off+k,rfl,hb,hl,ht,fun j y hj=>?_⟩;rw[List.getElem?_drop] at hj;obtain⟨vs,hR,hcc⟩:=hc (k+j) y hj;refine⟨vs,hR,fun i v hv=>?_⟩;have:=hcc i v hv;rw[hsz,Nat.mul_one] at this;rw[hsz,Nat.mul_one,show off+k+j+i=off+(k+j)+i by omega];exact this
inductive Dj (V:World) (k:Nat) (l:List Int) (a:Int) (b1 o1:Nat):List (Nat×Value)→World→Prop
 |n0 {w:World}:Below V.heap.size V w→Dj V k l a b1 o1 [] w
 |nb {w:World}{g:Nat}:Below V.heap.size V w→w.heap[g]?=some (.cells #[.int .i64 a] 3 (0,0))→Dj V k l a b1 o1 [(10,.slice (some ⟨g,0,none⟩) 1 1)] w
 |nc {w:World}{A:Option Addr}{c:Nat}:Below V.heap.size V w→Bj 3 Bo w V.heap.size (fun _=>False) A k c (l.take k)→Dj V k l a b1 o1 [(7,.slice A k c)] w
 |both {w:World}{A:Option Addr}{c g:Nat}{us:List (Nat×Value)}:Below V.heap.size V w→w.heap[g]?=some (.cells #[.int .i64 a] 3 (0,0))→Bj 3 Bo w V.heap.size (fun _=>False) A k c (l.take k)→
   (us=[(7,.slice A k c),(10,.slice (some ⟨g,0,none⟩) 1 1)]∨us=[(10,.slice (some ⟨g,0,none⟩) 1 1),(7,.slice A k c)])→Dj V k l a b1 o1 us w
 |a1 {w:World}{A:Option Addr}{c:Nat}{us:List (Nat×Value)}{u u':Value}:Below V.heap.size V w→Bj 3 Bo w V.heap.size (fun _=>False) A (k+1) c (l.take k++[a])→
   (us=[(7,u),(10,u'),(11,.slice A (k+1) c)]∨us=[(10,u'),(7,u),(11,.slice A (k+1) c)])→Dj V k l a b1 o1 us w
 |a2 {w:World}{A:Option Addr}{c:Nat}{us:List (Nat×Value)}{u u' u2:Value}:Below V.heap.size V w→Bj 3 Bo w V.heap.size (fun _=>False) A (l.length+1) c (Fu k a l)→
   (us=[(7,u),(10,u'),(11,u2),(15,.slice A (l.length+1) c)]∨us=[(10,u'),(7,u),(11,u2),(15,.slice A (l.length+1) c)])→Dj V k l a b1 o1 us w
 |done {w w6:World}{A:Option Addr}{c:Nat}{us:List (Nat×Value)}{u u' u2 u3 u4:Value}:Below V.heap.size V w6→Bj 3 Bo w6 V.heap.size (fun _=>False) A (l.length+1) c (Fu k a l)→w=w6.setCell ⟨b1,o1,none⟩ (.slice A (l.length+1) c)→
   (us=[(7,u),(10,u'),(11,u2),(15,u3),(17,u4)]∨us=[(10,u'),(7,u),(11,u2),(15,u3),(17,u4)])→Dj V k l a b1 o1 us w
theorem Dj.below {V:World}{k:Nat}{l:List Int}{a:Int}{b1 o1:Nat}{us:List (Nat×Value)}{w:World}(h:Dj V k l a b1 o1 us w) (h17:17∉us.map Prod.fst):Below V.heap.size V w:=by
 cases h with
 |done _ _ _ h=>exact absurd (by rcases h with rfl|rfl<;>simp) h17
 |n0 h=>exact h
 |nb h _=>exact h
 |nc h _=>exact h
 |both h _ _ _=>exact h
 |a1 h _ _=>exact h
 |a2 h _ _=>exact h
end Go.Proofs.YtipecejghioicaaGreat
