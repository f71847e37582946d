/- silolaw15's loops over shapes and stripes: the boxes of a shape and a stripe, of a need and slots. -/
import Derived.Test.YtfccghfcilccfaaE4
import Derived.Test.YtfccghfcilccfaaE8
import Derived.Test.YtfccghfcilccfaaE10
import Derived.Test.YtfccghfcilccfaaB6
namespace Go.Proofs.Ytfccghfcilccfaa
open Go.RowKit Go.Silo

/-- 's, x := p.S[i], p.X[k]': two boxes. -/
def R9 (V : World) (i : Nat) (v : Value) (W : World) : Prop :=
  (i = 10 → ∃ g, v = .pointer (some ⟨g, 0, none⟩) ∧ V.heap.size ≤ g ∧ W.heap[g]? = some (.cells #[.int .i64 0, .int .i64 0, .int .i64 0] 23 (0, 0))) ∧
  (i = 11 → ∃ g, v = .pointer (some ⟨g, 0, none⟩) ∧ V.heap.size ≤ g ∧ W.heap[g]? = some (.cells #[.int .i64 0, .int .i64 0, .int .i64 0, .slice none 0 0] 79 (0, 0)))
theorem R9.all {V W W' : World} (hb : Below W.heap.size W W') (j : Nat) (v : Value) (h : R9 V j v W) : R9 V j v W' := by
  refine ⟨fun e => ?_, fun e => ?_⟩
  · obtain ⟨g, e, hg, hr⟩ := h.1 e; exact ⟨g, e, hg, (hb.block _ (Array.getElem?_eq_some_iff.1 hr).1).trans hr⟩
  · obtain ⟨g, e, hg, hr⟩ := h.2 e; exact ⟨g, e, hg, (hb.block _ (Array.getElem?_eq_some_iff.1 hr).1).trans hr⟩
def st91 (a b c : Value) (us : List (Nat × Value)) (W : World) : World := ((W.setCell ⟨blkOf ((us.lookup 10).getD undef), 0, none⟩ a).setCell ⟨blkOf ((us.lookup 10).getD undef), 1, none⟩ b).setCell ⟨blkOf ((us.lookup 10).getD undef), 2, none⟩ c
def st92 (a b c d : Value) (us : List (Nat × Value)) (W : World) : World := (((W.setCell ⟨blkOf ((us.lookup 11).getD undef), 0, none⟩ a).setCell ⟨blkOf ((us.lookup 11).getD undef), 1, none⟩ b).setCell ⟨blkOf ((us.lookup 11).getD undef), 2, none⟩ c).setCell ⟨blkOf ((us.lookup 11).getD undef), 3, none⟩ d
theorem row_set4 {w : World} {g : Nat} {a b c d u v z y : Value} {T : TypeId} (h : w.heap[g]? = some (.cells #[a, b, c, d] T (0, 0))) : ((((w.setCell ⟨g, 0, none⟩ u).setCell ⟨g, 1, none⟩ v).setCell ⟨g, 2, none⟩ z).setCell ⟨g, 3, none⟩ y).heap[g]? = some (.cells #[u, v, z, y] T (0, 0)) := by
  simp [World.setCell, Array.getElem?_modify, h]

/-- The boxes of the shape and of the stripe. -/
structure NB (W0 : World) (s : Shape) (x : Stripe) (Ap : Option Addr) (np cp g5 g6 : Nat) (V : World) : Prop where
  r5 : V.heap[g5]? = some (.cells #[.int .i64 s.K, .int .i64 s.M, .int .i64 s.size] 23 (0, 0))
  r6 : V.heap[g6]? = some (.cells #[.int .i64 x.id, .int .i64 x.len, .int .i64 x.gen, .slice Ap np cp] 79 (0, 0))
  below : Below W0.heap.size W0 V
section
variable {W0 V V' : World} {s : Shape} {x : Stripe} {Ap : Option Addr} {np cp g5 g6 : Nat}
theorem NB.h5 (h : NB W0 s x Ap np cp g5 g6 V) : g5 < V.heap.size := (Array.getElem?_eq_some_iff.1 h.r5).1
theorem NB.h6 (h : NB W0 s x Ap np cp g5 g6 V) : g6 < V.heap.size := (Array.getElem?_eq_some_iff.1 h.r6).1
theorem NB.all (h : NB W0 s x Ap np cp g5 g6 V) (hb : Below V.heap.size V V') : NB W0 s x Ap np cp g5 g6 V' :=
  ⟨(hb.block _ h.h5).trans h.r5, (hb.block _ h.h6).trans h.r6, h.below.trans (hb.mono h.below.size)⟩
theorem NB.grown {row : Option Nat} {m : Nat} (h : NB W0 s x Ap np cp g5 g6 V) (hg : V.grownBy V' row) (hr : ∀ r, row = some r → m ≤ r) (h5 : g5 < m) (h6 : g6 < m) (hm : W0.heap.size ≤ m) : NB W0 s x Ap np cp g5 g6 V' :=
  ⟨(hg.block _ h.h5 (fun e => by have := hr _ e.symm; omega)).trans h.r5, (hg.block _ h.h6 (fun e => by have := hr _ e.symm; omega)).trans h.r6, h.below.grown hg h.below.size (fun r e => by have := hr r e; omega)⟩
theorem NB.cells (h : NB W0 s x Ap np cp g5 g6 V) : (V.cell? ⟨g5, 0, none⟩ = some (.int .i64 s.K) ∧ V.cell? ⟨g5, 1, none⟩ = some (.int .i64 s.M) ∧ V.cell? ⟨g5, 2, none⟩ = some (.int .i64 s.size)) ∧
    (V.cell? ⟨g6, 0, none⟩ = some (.int .i64 x.id) ∧ V.cell? ⟨g6, 1, none⟩ = some (.int .i64 x.len) ∧ V.cell? ⟨g6, 2, none⟩ = some (.int .i64 x.gen) ∧ V.cell? ⟨g6, 3, none⟩ = some (.slice Ap np cp)) :=
  ⟨⟨cell_of_row V _ 0 _ _ _ h.r5, cell_of_row V _ 1 _ _ _ h.r5, cell_of_row V _ 2 _ _ _ h.r5⟩, ⟨cell_of_row V _ 0 _ _ _ h.r6, cell_of_row V _ 1 _ _ _ h.r6, cell_of_row V _ 2 _ _ _ h.r6, cell_of_row V _ 3 _ _ _ h.r6⟩⟩
end
/-- A need and slots in two boxes. -/
structure NO (R : Need × SlotsD × Int) (m m' gn gs : Nat) (A : Option Addr) (n c : Nat) (B : Option Addr) (k d : Nat) (A0 : Option Addr) (n0 c0 : Nat) (A1 : Option Addr) (n1 c1 : Nat) (V : World) : Prop where
  rn : V.heap[gn]? = some (.cells #[.int .i64 R.1.stripe, .slice A n c, .slice B k d] 88 (0, 0))
  rs : V.heap[gs]? = some (.cells #[.slice A0 n0 c0, .slice A1 n1 c1] 62 (0, 0))
  i : Sl true 3 intE V (fun b => m ≤ b ∧ b < m') A n c R.1.index
  t : Sl true 104 slotE V (fun b => m ≤ b ∧ b < m') B k d R.1.to
  l : Sl true 4 boolE V (fun b => m ≤ b ∧ b < m') A0 n0 c0 R.2.1.live
  f : Sl true 52 (slE true 3 intE) V (fun b => m ≤ b ∧ b < m') A1 n1 c1 R.2.1.free
  hn : m ≤ gn ∧ gn < m'
  hs : m ≤ gs ∧ gs < m'
  lo : m' ≤ V.heap.size
section
variable {R : Need × SlotsD × Int} {m m' gn gs : Nat} {A : Option Addr} {n c : Nat} {B : Option Addr} {k d : Nat} {A0 : Option Addr} {n0 c0 : Nat} {A1 : Option Addr} {n1 c1 : Nat} {V V' : World}
theorem NO.keep (h : NO R m m' gn gs A n c B k d A0 n0 c0 A1 n1 c1 V) (hb : Below m' V V') : NO R m m' gn gs A n c B k d A0 n0 c0 A1 n1 c1 V' :=
  ⟨(hb.block _ h.hn.2).trans h.rn, (hb.block _ h.hs.2).trans h.rs, h.i.below hb (fun _ k _ => k.2), h.t.below hb (fun _ k _ => k.2), h.l.below hb (fun _ k _ => k.2), h.f.below hb (fun _ k _ => k.2), h.hn, h.hs, Nat.le_trans h.lo hb.size⟩
theorem NO.all (h : NO R m m' gn gs A n c B k d A0 n0 c0 A1 n1 c1 V) (hb : Below V.heap.size V V') : NO R m m' gn gs A n c B k d A0 n0 c0 A1 n1 c1 V' := h.keep (hb.mono h.lo)
theorem NO.cells (h : NO R m m' gn gs A n c B k d A0 n0 c0 A1 n1 c1 V) : (V.cell? ⟨gn, 0, none⟩ = some (.int .i64 R.1.stripe) ∧ V.cell? ⟨gn, 1, none⟩ = some (.slice A n c) ∧ V.cell? ⟨gn, 2, none⟩ = some (.slice B k d)) ∧ (V.cell? ⟨gs, 0, none⟩ = some (.slice A0 n0 c0) ∧ V.cell? ⟨gs, 1, none⟩ = some (.slice A1 n1 c1)) :=
  ⟨⟨cell_of_row V _ 0 _ _ _ h.rn, cell_of_row V _ 1 _ _ _ h.rn, cell_of_row V _ 2 _ _ _ h.rn⟩, ⟨cell_of_row V _ 0 _ _ _ h.rs, cell_of_row V _ 1 _ _ _ h.rs⟩⟩
end

/-- Two boxes, made and filled. -/
theorem NO.made {R : Need × SlotsD × Int} {m : Nat} {w : World} {A : Option Addr} {n c : Nat} {B : Option Addr} {k d : Nat} {A0 : Option Addr} {n0 c0 : Nat} {A1 : Option Addr} {n1 c1 : Nat}
    (t1 : Sl true 3 intE w (fun b => m ≤ b) A n c R.1.index) (t2 : Sl true 104 slotE w (fun b => m ≤ b) B k d R.1.to) (t3 : Sl true 4 boolE w (fun b => m ≤ b) A0 n0 c0 R.2.1.live) (t4 : Sl true 52 (slE true 3 intE) w (fun b => m ≤ b) A1 n1 c1 R.2.1.free) (hm : m ≤ w.heap.size) :
    NO R m (w.heap.size + 1 + 1) w.heap.size (w.heap.size + 1) A n c B k d A0 n0 c0 A1 n1 c1 ((w.alloc (.cells #[.int .i64 R.1.stripe, .slice A n c, .slice B k d] 88)).alloc (.cells #[.slice A0 n0 c0, .slice A1 n1 c1] 62)) := by
  have hA : Below w.heap.size w ((w.alloc (.cells #[.int .i64 R.1.stripe, .slice A n c, .slice B k d] 88)).alloc (.cells #[.slice A0 n0 c0, .slice A1 n1 c1] 62)) := ((Below.refl _ _).alloc (Nat.le_refl _) _).alloc (by simp) _
  have hz : w.heap.size < (w.alloc (.cells #[.int .i64 R.1.stripe, .slice A n c, .slice B k d] 88)).heap.size := by simp
  have hs : (w.alloc (.cells #[.int .i64 R.1.stripe, .slice A n c, .slice B k d] 88)).heap.size = w.heap.size + 1 := by simp
  have hs2 : ((w.alloc (.cells #[.int .i64 R.1.stripe, .slice A n c, .slice B k d] 88)).alloc (.cells #[.slice A0 n0 c0, .slice A1 n1 c1] 62)).heap.size = w.heap.size + 1 + 1 := by simp
  have r0 := (Below.heap_alloc (w.alloc (.cells #[.int .i64 R.1.stripe, .slice A n c, .slice B k d] 88)) (.cells #[.slice A0 n0 c0, .slice A1 n1 c1] 62) _ hz).trans (heap_alloc_new w (.cells #[.int .i64 R.1.stripe, .slice A n c, .slice B k d] 88))
  have r1 := heap_alloc_new (w.alloc (.cells #[.int .i64 R.1.stripe, .slice A n c, .slice B k d] 88)) (.cells #[.slice A0 n0 c0, .slice A1 n1 c1] 62)
  rw [hs] at r1
  exact ⟨r0, r1, (t1.lt_block.all hA).mono (fun b hb _ => ⟨hb.1, by have := hb.2; omega⟩), (t2.lt_block.all hA).mono (fun b hb _ => ⟨hb.1, by have := hb.2; omega⟩), (t3.lt_block.all hA).mono (fun b hb _ => ⟨hb.1, by have := hb.2; omega⟩), (t4.lt_block.all hA).mono (fun b hb _ => ⟨hb.1, by have := hb.2; omega⟩),
    ⟨hm, by omega⟩, ⟨by omega, by omega⟩, Nat.le_of_eq hs2.symm⟩

theorem NO.zero (w : World) : NO (noNeed, ⟨[], []⟩, 1) w.heap.size (w.heap.size + 1 + 1) w.heap.size (w.heap.size + 1) none 0 0 none 0 0 none 0 0 none 0 0 ((w.alloc (.cells #[.int .i64 0, .slice none 0 0, .slice none 0 0] 88)).alloc (.cells #[.slice none 0 0, .slice none 0 0] 62)) ∧
    Below w.heap.size w ((w.alloc (.cells #[.int .i64 0, .slice none 0 0, .slice none 0 0] 88)).alloc (.cells #[.slice none 0 0, .slice none 0 0] 62)) :=
  ⟨NO.made (R := (noNeed, ⟨[], []⟩, 1)) (Sl.nil_ (by decide)) (Sl.nil_ (by decide)) (Sl.nil_ (by decide)) (Sl.nil_ (by decide)) (Nat.le_refl _), ((Below.refl _ _).alloc (Nat.le_refl _) _).alloc (by simp) _⟩

theorem stripeOk_dims {s : Shape} {x : Stripe} (h : stripeOk s x = true) : (1 ≤ s.K ∧ s.K ≤ 8 ∧ 0 ≤ s.M ∧ s.M ≤ 6) ∧ (x.place.length : Int) = s.K + s.M := by
  unfold stripeOk at h
  simp only [Bool.and_eq_true, decide_eq_true_eq] at h
  have h1 := h.1.1.1.1.1.1
  unfold shapeOk at h1
  have h2 := of_decide_eq_true h1
  exact ⟨⟨h2.1, h2.2.1, h2.2.2.1, h2.2.2.2.1⟩, h.1.2⟩
end Go.Proofs.Ytfccghfcilccfaa
