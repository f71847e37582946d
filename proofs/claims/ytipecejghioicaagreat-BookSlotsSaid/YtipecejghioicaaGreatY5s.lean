/- A book of one's own, in a box: what may be written over. -/
import Derived.Test.YtipecejghioicaaGreatY4s
import Derived.Test.YtipecejghioicaaGreatQ10s
import Derived.Test.YtipecejghioicaaGreatP0s
namespace Go.Silo
open Go Go.RowKit
theorem Be.mono' {α:Type}{T:TypeId}{E:Enc α}{w:World}{base:Nat}{S S':Nat→Prop}{A:Option Addr}{n c:Nat}{xs:List α}(h:Be T E w base S A n c xs) (hS:∀b,S b→some b≠qa A→b<w.heap.size→S' b):Be T E w base S' A n c xs:=by
 obtain⟨cells,ho,hl,hk⟩:=h;exact⟨cells,ho,hl,fun k x hx=>E.mono (fun b hb hlt=>⟨hS b hb.1 hb.2 hlt,hb.2⟩) (hk k x hx)⟩
def NS (bb:Nat) (A0 A1 A2:Option Addr) (g:Nat):Prop:=bb<g∧some g≠qa A0∧some g≠qa A1∧some g≠qa A2
structure Xw (bb:Nat) (A0 A1 A2:Option Addr):Prop where
 b0:qa A0≠some bb
 b1:qa A1≠some bb
 b2:qa A2≠some bb
 a01:∀g,qa A0=some g→qa A1≠some g
 a02:∀g,qa A0=some g→qa A2≠some g
 a12:∀g,qa A1=some g→qa A2≠some g
theorem xd {w:World}{bb:Nat}{a b c d v:Value}{T:TypeId}(h:w.heap[bb]?=some (.cells #[a,b,c,d] T (0,0))):
  (w.setCell ⟨bb,0,none⟩ v).heap[bb]?=some (.cells #[v,b,c,d] T (0,0))∧(w.setCell ⟨bb,1,none⟩ v).heap[bb]?=some (.cells #[a,v,c,d] T (0,0))∧(w.setCell ⟨bb,2,none⟩ v).heap[bb]?=some (.cells #[a,b,v,d] T (0,0))∧(w.setCell ⟨bb,3,none⟩ v).heap[bb]?=some (.cells #[a,b,c,v] T (0,0)):=by
 refine⟨?_,?_,?_,?_⟩<;>(rw[setCell_eq_setRow w bb _ _ T (0,0) v h];exact setRow_heap w bb _ _ T (0,0) h)
end Go.Silo
namespace Go.Proofs.YtipecejghioicaaGreat
open Go.RowKit Go.Silo
structure OB (X:Nat→Option Obj) (β bb:Nat) (A0:Option Addr) (n0 c0:Nat) (A1:Option Addr) (n1 c1:Nat) (A2:Option Addr) (n2 c2:Nat) (b:Book) (W:World):Prop where
 row:W.heap[bb]?=some (.cells #[.slice A0 n0 c0,.slice A1 n1 c1,.slice A2 n2 c2,.int .i64 b.next] 28 (0,0))
 st:Silo.Be 86 (qe true) W β (NS bb A0 A1 A2) A0 n0 c0 b.Ba
 th:Silo.Be 90 (ql true) W β (NS bb A0 A1 A2) A1 n1 c1 b.things
 ta:Silo.Be 94 Bz W β (NS bb A0 A1 A2) A2 n2 c2 b.tags
 ap:Xw bb A0 A1 A2
 nx:Bo b.next
 lo:β≤bb
 ex:∀g o,X g=some o→g≠bb∧some g≠qa A0∧some g≠qa A1∧some g≠qa A2∧W.heap[g]?=some o
section
variable {X:Nat→Option Obj}{β bb:Nat}{A0:Option Addr}{n0 c0:Nat}{A1:Option Addr}{n1 c1:Nat}{A2:Option Addr}{n2 c2:Nat}{b:Book}{W V:World}
theorem OB.all (h:OB X β bb A0 n0 c0 A1 n1 c1 A2 n2 c2 b W) (hb:Below W.heap.size W V):OB X β bb A0 n0 c0 A1 n1 c1 A2 n2 c2 b V:=
 ⟨zb hb h.row,h.st.all hb,h.th.all hb,h.ta.all hb,h.ap,h.nx,h.lo,fun g o hx=>let ⟨e1,e2,e3,e4,e5⟩:=h.ex g o hx;⟨e1,e2,e3,e4,(hb.block g (zl e5)).trans e5⟩⟩
theorem OB.box (h:OB X β bb A0 n0 c0 A1 n1 c1 A2 n2 c2 b W):bb<W.heap.size:=(zl h.row)
theorem OB.put0 {w7:World}{A':Option Addr}{n' c':Nat}{l':List Bb}(h:OB X β bb A0 n0 c0 A1 n1 c1 A2 n2 c2 b W) (hc:Cq (qa A0) W w7)
  (ho:Silo.Be 86 (qe true) w7 β (NS bb A0 A1 A2) A' n' c' l') (ha:qa A'=qa A0∨∃g,qa A'=some g∧W.heap.size≤g):
  OB X β bb A' n' c' A1 n1 c1 A2 n2 c2 {b with Ba:=l'} (w7.setCell ⟨bb,0,none⟩ (.slice A' n' c'))∧Below β W (w7.setCell ⟨bb,0,none⟩ (.slice A' n' c')):=by
 have hbb:=h.box
 have nC:qa A'≠some bb:=by
  rcases ha with ha|⟨g,e,hg⟩
  ·rw[ha];exact h.ap.b0
  rw[e];intro e2;injection e2 with e2;omega
 have rG:w7.heap[bb]?=some (.cells #[.slice A0 n0 c0,.slice A1 n1 c1,.slice A2 n2 c2,.int .i64 b.next] 28 (0,0)):=(hc.agree bb (fun e=>h.ap.b0 e.symm) hbb).trans h.row;have hbb7:bb<w7.heap.size:=Nat.lt_of_lt_of_le hbb hc.size;have gz:∀(S:Nat→Prop),¬S bb→Agree S w7 (w7.setCell ⟨bb,0,none⟩ (.slice A' n' c')):=fun S hS=>Agree.setCell (p:=⟨bb,0,none⟩) hS _;have hsz:w7.heap.size≤(w7.setCell ⟨bb,0,none⟩ (.slice A' n' c')).heap.size:=by simp
 have hj1:∀g,qa A1=some g→qa A0≠some g:=(fun g e e2=>h.ap.a01 g e2 e)
 have h1:Silo.Be 90 (ql true) (w7.setCell ⟨bb,0,none⟩ (.slice A' n' c')) β (NS bb A' A1 A2) A1 n1 c1 b.things:=by
  have q1:=h.th.mono' (S':=fun b=>NS bb A0 A1 A2 b∧some b≠qa A') (fun b hb _ hlt=>⟨hb,by
   rcases ha with ha|⟨g,e,hg⟩
   ·rw[ha];exact hb.2.1
   rw[e];intro e2;injection e2 with e2;omega⟩)
  have q2:=q1.frame (w':=w7) (fun b hb hlt=>hc.agree b (hb.elim (fun h=>h.1.2.1) (fun e e2=>hj1 b e.symm e2.symm)) hlt) hc.size;have q3:=q2.frame (gz _ (fun hb=>hb.elim (fun h=>Nat.lt_irrefl _ h.1.1) (fun e=>h.ap.b1 e.symm))) hsz;exact q3.mono (fun b hb _=>⟨hb.1.1,hb.2,hb.1.2.2.1,hb.1.2.2.2⟩)
 have uR:∀g,qa A2=some g→qa A0≠some g:=(fun g e e2=>h.ap.a02 g e2 e)
 have h2:Silo.Be 94 Bz (w7.setCell ⟨bb,0,none⟩ (.slice A' n' c')) β (NS bb A' A1 A2) A2 n2 c2 b.tags:=by
  have q1:=h.ta.mono' (S':=fun b=>NS bb A0 A1 A2 b∧some b≠qa A') (fun b hb _ hlt=>⟨hb,by
   rcases ha with ha|⟨g,e,hg⟩
   ·rw[ha];exact hb.2.1
   rw[e];intro e2;injection e2 with e2;omega⟩)
  have q2:=q1.frame (w':=w7) (fun b hb hlt=>hc.agree b (hb.elim (fun h=>h.1.2.1) (fun e e2=>uR b e.symm e2.symm)) hlt) hc.size;have q3:=q2.frame (gz _ (fun hb=>hb.elim (fun h=>Nat.lt_irrefl _ h.1.1) (fun e=>h.ap.b2 e.symm))) hsz;exact q3.mono (fun b hb _=>⟨hb.1.1,hb.2,hb.1.2.2.1,hb.1.2.2.2⟩)
 have hown:Silo.Be 86 (qe true) (w7.setCell ⟨bb,0,none⟩ (.slice A' n' c')) β (NS bb A' A1 A2) A' n' c' l':=
  (ho.frame (gz _ (fun hb=>hb.elim (fun h=>Nat.lt_irrefl _ h.1) (fun e=>nC e.symm))) hsz).mono' (fun b hb hne _=>⟨hb.1,hne,hb.2.2.1,hb.2.2.2⟩)
 have hap:Xw bb A' A1 A2:=⟨nC,h.ap.b1,h.ap.b2,fun g e=>by
   rcases ha with ha|⟨g',e',hg⟩
   ·exact h.ap.a01 g (by rw[←ha];exact e)
   ·intro e2;rw[e'] at e;injection e with e;subst e
    have:=(h.th.lt _ e2).2;omega,fun g e=>by
   rcases ha with ha|⟨g',e',hg⟩
   ·exact h.ap.a02 g (by rw[←ha];exact e)
   intro e2;rw[e'] at e;injection e with e;subst e
   have:=(h.ta.lt _ e2).2;omega,h.ap.a12⟩
 have hex:∀g o,X g=some o→g≠bb∧some g≠qa A'∧some g≠qa A1∧some g≠qa A2∧(w7.setCell ⟨bb,0,none⟩ (.slice A' n' c')).heap[g]?=some o:=fun g o hx=>by
  obtain⟨e1,e2,e3,e4,e5⟩:=h.ex g o hx;have hg:=(zl e5)
  have hnew:some g≠qa A':=by
   rcases ha with ha|⟨g',e',hg'⟩
   ·rw[ha];exact e2
   rw[e'];intro e9;injection e9 with e9;omega
  exact⟨e1,hnew,e3,e4,(Below.heap_setCell w7 _ _ _ e1).trans ((hc.agree g e2 hg).trans e5)⟩
 exact⟨⟨(xd rG).1,hown,h1,h2,hap,h.nx,h.lo,hex⟩,(hc.below β (Nat.le_trans h.lo (Nat.le_of_lt hbb)) (fun k hk=>(h.st.lt k hk).1)).setCell h.lo _⟩
theorem OB.put1 {w7:World}{A':Option Addr}{n' c':Nat}{l':List Entry}(h:OB X β bb A0 n0 c0 A1 n1 c1 A2 n2 c2 b W) (hc:Cq (qa A1) W w7)
  (ho:Silo.Be 90 (ql true) w7 β (NS bb A0 A1 A2) A' n' c' l') (ha:qa A'=qa A1∨∃g,qa A'=some g∧W.heap.size≤g):
  OB X β bb A0 n0 c0 A' n' c' A2 n2 c2 {b with things:=l'} (w7.setCell ⟨bb,1,none⟩ (.slice A' n' c'))∧Below β W (w7.setCell ⟨bb,1,none⟩ (.slice A' n' c')):=by
 have hbb:=h.box
 have nC:qa A'≠some bb:=by
  rcases ha with ha|⟨g,e,hg⟩
  ·rw[ha];exact h.ap.b1
  rw[e];intro e2;injection e2 with e2;omega
 have rG:w7.heap[bb]?=some (.cells #[.slice A0 n0 c0,.slice A1 n1 c1,.slice A2 n2 c2,.int .i64 b.next] 28 (0,0)):=(hc.agree bb (fun e=>h.ap.b1 e.symm) hbb).trans h.row;have hbb7:bb<w7.heap.size:=Nat.lt_of_lt_of_le hbb hc.size;have gz:∀(S:Nat→Prop),¬S bb→Agree S w7 (w7.setCell ⟨bb,1,none⟩ (.slice A' n' c')):=fun S hS=>Agree.setCell (p:=⟨bb,1,none⟩) hS _;have hsz:w7.heap.size≤(w7.setCell ⟨bb,1,none⟩ (.slice A' n' c')).heap.size:=by simp
 have hj0:∀g,qa A0=some g→qa A1≠some g:=(fun g e=>h.ap.a01 g e)
 have h0:Silo.Be 86 (qe true) (w7.setCell ⟨bb,1,none⟩ (.slice A' n' c')) β (NS bb A0 A' A2) A0 n0 c0 b.Ba:=by
  have q1:=h.st.mono' (S':=fun b=>NS bb A0 A1 A2 b∧some b≠qa A') (fun b hb _ hlt=>⟨hb,by
   rcases ha with ha|⟨g,e,hg⟩
   ·rw[ha];exact hb.2.2.1
   rw[e];intro e2;injection e2 with e2;omega⟩)
  have q2:=q1.frame (w':=w7) (fun b hb hlt=>hc.agree b (hb.elim (fun h=>h.1.2.2.1) (fun e e2=>hj0 b e.symm e2.symm)) hlt) hc.size;have q3:=q2.frame (gz _ (fun hb=>hb.elim (fun h=>Nat.lt_irrefl _ h.1.1) (fun e=>h.ap.b0 e.symm))) hsz;exact q3.mono (fun b hb _=>⟨hb.1.1,hb.1.2.1,hb.2,hb.1.2.2.2⟩)
 have uR:∀g,qa A2=some g→qa A1≠some g:=(fun g e e2=>h.ap.a12 g e2 e)
 have h2:Silo.Be 94 Bz (w7.setCell ⟨bb,1,none⟩ (.slice A' n' c')) β (NS bb A0 A' A2) A2 n2 c2 b.tags:=by
  have q1:=h.ta.mono' (S':=fun b=>NS bb A0 A1 A2 b∧some b≠qa A') (fun b hb _ hlt=>⟨hb,by
   rcases ha with ha|⟨g,e,hg⟩
   ·rw[ha];exact hb.2.2.1
   rw[e];intro e2;injection e2 with e2;omega⟩)
  have q2:=q1.frame (w':=w7) (fun b hb hlt=>hc.agree b (hb.elim (fun h=>h.1.2.2.1) (fun e e2=>uR b e.symm e2.symm)) hlt) hc.size;have q3:=q2.frame (gz _ (fun hb=>hb.elim (fun h=>Nat.lt_irrefl _ h.1.1) (fun e=>h.ap.b2 e.symm))) hsz;exact q3.mono (fun b hb _=>⟨hb.1.1,hb.1.2.1,hb.2,hb.1.2.2.2⟩)
 have hown:Silo.Be 90 (ql true) (w7.setCell ⟨bb,1,none⟩ (.slice A' n' c')) β (NS bb A0 A' A2) A' n' c' l':=
  (ho.frame (gz _ (fun hb=>hb.elim (fun h=>Nat.lt_irrefl _ h.1) (fun e=>nC e.symm))) hsz).mono' (fun b hb hne _=>⟨hb.1,hb.2.1,hne,hb.2.2.2⟩)
 have hap:Xw bb A0 A' A2:=⟨h.ap.b0,nC,h.ap.b2,fun g e e2=>by
   rcases ha with ha|⟨g',e',hg⟩
   ·exact h.ap.a01 g e (by rw[←ha];exact e2)
   ·rw[e'] at e2;injection e2 with e2;subst e2
    have:=(h.st.lt _ e).2;omega,h.ap.a02,fun g e=>by
   rcases ha with ha|⟨g',e',hg⟩
   ·exact h.ap.a12 g (by rw[←ha];exact e)
   intro e2;rw[e'] at e;injection e with e;subst e
   have:=(h.ta.lt _ e2).2;omega⟩
 have hex:∀g o,X g=some o→g≠bb∧some g≠qa A0∧some g≠qa A'∧some g≠qa A2∧(w7.setCell ⟨bb,1,none⟩ (.slice A' n' c')).heap[g]?=some o:=fun g o hx=>by
  obtain⟨e1,e2,e3,e4,e5⟩:=h.ex g o hx;have hg:=(zl e5)
  have hnew:some g≠qa A':=by
   rcases ha with ha|⟨g',e',hg'⟩
   ·rw[ha];exact e3
   rw[e'];intro e9;injection e9 with e9;omega
  exact⟨e1,e2,hnew,e4,(Below.heap_setCell w7 _ _ _ e1).trans ((hc.agree g e3 hg).trans e5)⟩
 exact⟨⟨(xd rG).2.1,h0,hown,h2,hap,h.nx,h.lo,hex⟩,(hc.below β (Nat.le_trans h.lo (Nat.le_of_lt hbb)) (fun k hk=>(h.th.lt k hk).1)).setCell h.lo _⟩
theorem OB.put2 {w7:World}{A':Option Addr}{n' c':Nat}{l':List Tag}(h:OB X β bb A0 n0 c0 A1 n1 c1 A2 n2 c2 b W) (hc:Cq (qa A2) W w7)
  (ho:Silo.Be 94 Bz w7 β (NS bb A0 A1 A2) A' n' c' l') (ha:qa A'=qa A2∨∃g,qa A'=some g∧W.heap.size≤g):
  OB X β bb A0 n0 c0 A1 n1 c1 A' n' c' {b with tags:=l'} (w7.setCell ⟨bb,2,none⟩ (.slice A' n' c'))∧Below β W (w7.setCell ⟨bb,2,none⟩ (.slice A' n' c')):=by
 have hbb:=h.box
 have nC:qa A'≠some bb:=by
  rcases ha with ha|⟨g,e,hg⟩
  ·rw[ha];exact h.ap.b2
  rw[e];intro e2;injection e2 with e2;omega
 have rG:w7.heap[bb]?=some (.cells #[.slice A0 n0 c0,.slice A1 n1 c1,.slice A2 n2 c2,.int .i64 b.next] 28 (0,0)):=(hc.agree bb (fun e=>h.ap.b2 e.symm) hbb).trans h.row;have hbb7:bb<w7.heap.size:=Nat.lt_of_lt_of_le hbb hc.size;have gz:∀(S:Nat→Prop),¬S bb→Agree S w7 (w7.setCell ⟨bb,2,none⟩ (.slice A' n' c')):=fun S hS=>Agree.setCell (p:=⟨bb,2,none⟩) hS _;have hsz:w7.heap.size≤(w7.setCell ⟨bb,2,none⟩ (.slice A' n' c')).heap.size:=by simp
 have hj0:∀g,qa A0=some g→qa A2≠some g:=(fun g e=>h.ap.a02 g e)
 have h0:Silo.Be 86 (qe true) (w7.setCell ⟨bb,2,none⟩ (.slice A' n' c')) β (NS bb A0 A1 A') A0 n0 c0 b.Ba:=by
  have q1:=h.st.mono' (S':=fun b=>NS bb A0 A1 A2 b∧some b≠qa A') (fun b hb _ hlt=>⟨hb,by
   rcases ha with ha|⟨g,e,hg⟩
   ·rw[ha];exact hb.2.2.2
   rw[e];intro e2;injection e2 with e2;omega⟩)
  have q2:=q1.frame (w':=w7) (fun b hb hlt=>hc.agree b (hb.elim (fun h=>h.1.2.2.2) (fun e e2=>hj0 b e.symm e2.symm)) hlt) hc.size;have q3:=q2.frame (gz _ (fun hb=>hb.elim (fun h=>Nat.lt_irrefl _ h.1.1) (fun e=>h.ap.b0 e.symm))) hsz;exact q3.mono (fun b hb _=>⟨hb.1.1,hb.1.2.1,hb.1.2.2.1,hb.2⟩)
 have hj1:∀g,qa A1=some g→qa A2≠some g:=(fun g e=>h.ap.a12 g e)
 have h1:Silo.Be 90 (ql true) (w7.setCell ⟨bb,2,none⟩ (.slice A' n' c')) β (NS bb A0 A1 A') A1 n1 c1 b.things:=by
  have q1:=h.th.mono' (S':=fun b=>NS bb A0 A1 A2 b∧some b≠qa A') (fun b hb _ hlt=>⟨hb,by
   rcases ha with ha|⟨g,e,hg⟩
   ·rw[ha];exact hb.2.2.2
   rw[e];intro e2;injection e2 with e2;omega⟩)
  have q2:=q1.frame (w':=w7) (fun b hb hlt=>hc.agree b (hb.elim (fun h=>h.1.2.2.2) (fun e e2=>hj1 b e.symm e2.symm)) hlt) hc.size;have q3:=q2.frame (gz _ (fun hb=>hb.elim (fun h=>Nat.lt_irrefl _ h.1.1) (fun e=>h.ap.b1 e.symm))) hsz;exact q3.mono (fun b hb _=>⟨hb.1.1,hb.1.2.1,hb.1.2.2.1,hb.2⟩)
 have hown:Silo.Be 94 Bz (w7.setCell ⟨bb,2,none⟩ (.slice A' n' c')) β (NS bb A0 A1 A') A' n' c' l':=
  (ho.frame (gz _ (fun hb=>hb.elim (fun h=>Nat.lt_irrefl _ h.1) (fun e=>nC e.symm))) hsz).mono' (fun b hb hne _=>⟨hb.1,hb.2.1,hb.2.2.1,hne⟩)
 have hap:Xw bb A0 A1 A':=⟨h.ap.b0,h.ap.b1,nC,h.ap.a01,fun g e e2=>by
   rcases ha with ha|⟨g',e',hg⟩
   ·exact h.ap.a02 g e (by rw[←ha];exact e2)
   ·rw[e'] at e2;injection e2 with e2;subst e2
    have:=(h.st.lt _ e).2;omega,fun g e e2=>by
   rcases ha with ha|⟨g',e',hg⟩
   ·exact h.ap.a12 g e (by rw[←ha];exact e2)
   rw[e'] at e2;injection e2 with e2;subst e2
   have:=(h.th.lt _ e).2;omega⟩
 have hex:∀g o,X g=some o→g≠bb∧some g≠qa A0∧some g≠qa A1∧some g≠qa A'∧(w7.setCell ⟨bb,2,none⟩ (.slice A' n' c')).heap[g]?=some o:=fun g o hx=>by
  obtain⟨e1,e2,e3,e4,e5⟩:=h.ex g o hx;have hg:=(zl e5)
  have hnew:some g≠qa A':=by
   rcases ha with ha|⟨g',e',hg'⟩
   ·rw[ha];exact e4
   rw[e'];intro e9;injection e9 with e9;omega
  exact⟨e1,e2,e3,hnew,(Below.heap_setCell w7 _ _ _ e1).trans ((hc.agree g e4 hg).trans e5)⟩
 exact⟨⟨(xd rG).2.2.1,h0,h1,hown,hap,h.nx,h.lo,hex⟩,(hc.below β (Nat.le_trans h.lo (Nat.le_of_lt hbb)) (fun k hk=>(h.ta.lt k hk).1)).setCell h.lo _⟩
theorem OB.putN {x:Int}(h:OB X β bb A0 n0 c0 A1 n1 c1 A2 n2 c2 b W) (hx:Bo x):OB X β bb A0 n0 c0 A1 n1 c1 A2 n2 c2 {b with next:=x} (W.setCell ⟨bb,3,none⟩ (.int .i64 x))∧Below β W (W.setCell ⟨bb,3,none⟩ (.int .i64 x)):=by
 have gz:∀(S:Nat→Prop),¬S bb→Agree S W (W.setCell ⟨bb,3,none⟩ (.int .i64 x)):=fun S hS=>Agree.setCell (p:=⟨bb,3,none⟩) hS _;have hsz:W.heap.size≤(W.setCell ⟨bb,3,none⟩ (.int .i64 x)).heap.size:=by simp
 exact⟨⟨(xd h.row).2.2.2,h.st.frame (gz _ (fun hb=>hb.elim (fun h=>Nat.lt_irrefl _ h.1) (fun e=>h.ap.b0 e.symm))) hsz,h.th.frame (gz _ (fun hb=>hb.elim (fun h=>Nat.lt_irrefl _ h.1) (fun e=>h.ap.b1 e.symm))) hsz,h.ta.frame (gz _ (fun hb=>hb.elim (fun h=>Nat.lt_irrefl _ h.1) (fun e=>h.ap.b2 e.symm))) hsz,h.ap,hx,h.lo,fun g o hX=>let ⟨e1,e2,e3,e4,e5⟩:=h.ex g o hX;⟨e1,e2,e3,e4,(Below.heap_setCell W _ _ _ e1).trans e5⟩⟩,(Below.refl β W).setCell h.lo _⟩
end
end Go.Proofs.YtipecejghioicaaGreat
