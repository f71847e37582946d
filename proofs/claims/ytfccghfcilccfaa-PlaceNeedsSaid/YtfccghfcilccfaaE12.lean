/- silolaw15.PlaceNeeds: the boxes of its rounds. -/
import Derived.Test.YtfccghfcilccfaaE5
import Derived.Test.YtfccghfcilccfaaE8
import Derived.Test.YtfccghfcilccfaaE9
import Derived.Test.YtfccghfcilccfaaE10
import Derived.Test.YtfccghfcilccfaaA4
import Derived.Test.YtfccghfcilccfaaB6
namespace Go.Proofs.Ytfccghfcilccfaa
open Go.RowKit Go.Silo

/-- 's, x := p.S[i], p.X[k]': two boxes. -/
def R9 (V : World) (i : Nat) (v : Value) (W : World) : Prop :=
  (i = 10 → ∃ g, v = .pointer (some ⟨g, 0, none⟩) ∧ V.heap.size ≤ g ∧ W.heap[g]? = some (.cells #[.int .i64 0, .int .i64 0, .int .i64 0] 23 (0, 0))) ∧
  (i = 11 → ∃ g, v = .pointer (some ⟨g, 0, none⟩) ∧ V.heap.size ≤ g ∧ W.heap[g]? = some (.cells #[.int .i64 0, .int .i64 0, .int .i64 0, .slice none 0 0] 79 (0, 0)))
theorem R9.all {V W W' : World} (hb : Below W.heap.size W W') (j : Nat) (v : Value) (h : R9 V j v W) : R9 V j v W' := by
  refine ⟨fun e => ?_, fun e => ?_⟩
  · obtain ⟨g, e, hg, hr⟩ := h.1 e; exact ⟨g, e, hg, (hb.block _ (Array.getElem?_eq_some_iff.1 hr).1).trans hr⟩
  · obtain ⟨g, e, hg, hr⟩ := h.2 e; exact ⟨g, e, hg, (hb.block _ (Array.getElem?_eq_some_iff.1 hr).1).trans hr⟩
def st91 (a b c : Value) (us : List (Nat × Value)) (W : World) : World := ((W.setCell ⟨blkOf ((us.lookup 10).getD undef), 0, none⟩ a).setCell ⟨blkOf ((us.lookup 10).getD undef), 1, none⟩ b).setCell ⟨blkOf ((us.lookup 10).getD undef), 2, none⟩ c
def st92 (a b c d : Value) (us : List (Nat × Value)) (W : World) : World := (((W.setCell ⟨blkOf ((us.lookup 11).getD undef), 0, none⟩ a).setCell ⟨blkOf ((us.lookup 11).getD undef), 1, none⟩ b).setCell ⟨blkOf ((us.lookup 11).getD undef), 2, none⟩ c).setCell ⟨blkOf ((us.lookup 11).getD undef), 3, none⟩ d
theorem row_set4 {w : World} {g : Nat} {a b c d u v z y : Value} {T : TypeId} (h : w.heap[g]? = some (.cells #[a, b, c, d] T (0, 0))) : ((((w.setCell ⟨g, 0, none⟩ u).setCell ⟨g, 1, none⟩ v).setCell ⟨g, 2, none⟩ z).setCell ⟨g, 3, none⟩ y).heap[g]? = some (.cells #[u, v, z, y] T (0, 0)) := by
  simp [World.setCell, Array.getElem?_modify, h]

/-- The boxes of the shape and of the stripe. -/
structure NB (W0 : World) (s : Shape) (x : Stripe) (Ap : Option Addr) (np cp g5 g6 : Nat) (V : World) : Prop where
  r5 : V.heap[g5]? = some (.cells #[.int .i64 s.K, .int .i64 s.M, .int .i64 s.size] 23 (0, 0))
  r6 : V.heap[g6]? = some (.cells #[.int .i64 x.id, .int .i64 x.len, .int .i64 x.gen, .slice Ap np cp] 79 (0, 0))
  below : Below W0.heap.size W0 V
section
variable {W0 V V' : World} {s : Shape} {x : Stripe} {Ap : Option Addr} {np cp g5 g6 : Nat}
theorem NB.h5 (h : NB W0 s x Ap np cp g5 g6 V) : g5 < V.heap.size := (Array.getElem?_eq_some_iff.1 h.r5).1
theorem NB.h6 (h : NB W0 s x Ap np cp g5 g6 V) : g6 < V.heap.size := (Array.getElem?_eq_some_iff.1 h.r6).1
theorem NB.all (h : NB W0 s x Ap np cp g5 g6 V) (hb : Below V.heap.size V V') : NB W0 s x Ap np cp g5 g6 V' :=
  ⟨(hb.block _ h.h5).trans h.r5, (hb.block _ h.h6).trans h.r6, h.below.trans (hb.mono h.below.size)⟩
theorem NB.grown {row : Option Nat} {m : Nat} (h : NB W0 s x Ap np cp g5 g6 V) (hg : V.grownBy V' row) (hr : ∀ r, row = some r → m ≤ r) (h5 : g5 < m) (h6 : g6 < m) (hm : W0.heap.size ≤ m) : NB W0 s x Ap np cp g5 g6 V' :=
  ⟨(hg.block _ h.h5 (fun e => by have := hr _ e.symm; omega)).trans h.r5, (hg.block _ h.h6 (fun e => by have := hr _ e.symm; omega)).trans h.r6, h.below.grown hg h.below.size (fun r e => by have := hr r e; omega)⟩
theorem NB.cells (h : NB W0 s x Ap np cp g5 g6 V) : (V.cell? ⟨g5, 0, none⟩ = some (.int .i64 s.K) ∧ V.cell? ⟨g5, 1, none⟩ = some (.int .i64 s.M) ∧ V.cell? ⟨g5, 2, none⟩ = some (.int .i64 s.size)) ∧
    (V.cell? ⟨g6, 0, none⟩ = some (.int .i64 x.id) ∧ V.cell? ⟨g6, 1, none⟩ = some (.int .i64 x.len) ∧ V.cell? ⟨g6, 2, none⟩ = some (.int .i64 x.gen) ∧ V.cell? ⟨g6, 3, none⟩ = some (.slice Ap np cp)) :=
  ⟨⟨cell_of_row V _ 0 _ _ _ h.r5, cell_of_row V _ 1 _ _ _ h.r5, cell_of_row V _ 2 _ _ _ h.r5⟩, ⟨cell_of_row V _ 0 _ _ _ h.r6, cell_of_row V _ 1 _ _ _ h.r6, cell_of_row V _ 2 _ _ _ h.r6, cell_of_row V _ 3 _ _ _ h.r6⟩⟩
end
theorem Try.info_Bools : (Try.prog.info? 30).map (fun i => (i.zero, i.size, i.bytes)) = some (some (.slice none 0 0), 1, 24) := by kernel_rfl


theorem Turns.setAll {S : Nat → Prop} {T : TypeId} {g n : Nat} (hS : S g) : ∀ (vs : List Value) (k : Nat) (W0 W : World), Turns S T W0 W → W.shape? g = some (T, n) → Turns S T W0 (setAll g k vs W)
  | [], _, _, _, h, _ => h
  | v :: vs, k, W0, _, h, hs => Turns.setAll hS vs (k + 1) W0 _ (h.setCell (p := ⟨g, k, none⟩) hS hs v) ((shape_setCell _ _ _ _).trans hs)
theorem setAll_size {g : Nat} : ∀ (vs : List Value) (k : Nat) (W : World), (setAll g k vs W).heap.size = W.heap.size
  | [], _, _ => rfl
  | v :: vs, k, W => (setAll_size vs (k + 1) (W.setCell ⟨g, k, none⟩ v)).trans (by simp)

/-- Behind 'in, y, l := ..': two boxes, three copies. -/
structure IR (W0 : World) (s : Shape) (x : Stripe) (Ap : Option Addr) (np cp g5 g6 : Nat) (y : SlotsD) (l : List Bool) (L : List (List Bool)) (AL : Option Addr) (nl cl g10 g11 : Nat) (Aq : Option Addr) (nq cq : Nat) (B0 : Option Addr) (m0 d0 : Nat) (B1 : Option Addr) (m1 d1 : Nat) (Al : Option Addr) (ql cq' m : Nat) (V : World) : Prop where
  nb : NB W0 s x Ap np cp g5 g6 V
  h5 : g5 < m
  h6 : g6 < m
  h10 : g10 < m
  h11 : g11 < m
  place : Sl false 104 slotE V (fun b => b < m) Ap np cp x.place
  lists : Sl false 30 (slE false 4 boolE) V (fun b => b < m) AL nl cl L
  r10 : V.heap[g10]? = some (.cells #[.int .i64 x.id, .int .i64 x.len, .int .i64 x.gen, .slice Aq nq cq] 79 (0, 0))
  r11 : V.heap[g11]? = some (.cells #[.slice B0 m0 d0, .slice B1 m1 d1] 62 (0, 0))
  sp : Sl true 104 slotE V (fun b => b < m) Aq nq cq x.place
  s0 : Sl true 4 boolE V (fun b => b < m) B0 m0 d0 y.live
  s1 : Sl true 52 (slE true 3 intE) V (fun b => b < m) B1 m1 d1 y.free
  sl : Sl true 4 boolE V (fun b => b < m) Al ql cq' l
  lo0 : W0.heap.size ≤ m
  lo : m ≤ V.heap.size
section
variable {W0 V V' : World} {s : Shape} {x : Stripe} {Ap : Option Addr} {np cp g5 g6 : Nat} {y : SlotsD} {l : List Bool} {L : List (List Bool)} {AL : Option Addr} {nl cl g10 g11 : Nat} {Aq : Option Addr} {nq cq : Nat} {B0 : Option Addr} {m0 d0 : Nat} {B1 : Option Addr} {m1 d1 : Nat} {Al : Option Addr} {ql cq' m : Nat}
theorem IR.keep (h : IR W0 s x Ap np cp g5 g6 y l L AL nl cl g10 g11 Aq nq cq B0 m0 d0 B1 m1 d1 Al ql cq' m V) (hb : Below m V V') : IR W0 s x Ap np cp g5 g6 y l L AL nl cl g10 g11 Aq nq cq B0 m0 d0 B1 m1 d1 Al ql cq' m V' :=
  ⟨⟨(hb.block _ h.h5).trans h.nb.r5, (hb.block _ h.h6).trans h.nb.r6, h.nb.below.trans (hb.mono h.lo0)⟩, h.h5, h.h6, h.h10, h.h11, h.place.below hb (fun _ k _ => k), h.lists.below hb (fun _ k _ => k),
    (hb.block _ h.h10).trans h.r10, (hb.block _ h.h11).trans h.r11, h.sp.below hb (fun _ k _ => k), h.s0.below hb (fun _ k _ => k), h.s1.below hb (fun _ k _ => k), h.sl.below hb (fun _ k _ => k), h.lo0, Nat.le_trans h.lo hb.size⟩
theorem IR.all (h : IR W0 s x Ap np cp g5 g6 y l L AL nl cl g10 g11 Aq nq cq B0 m0 d0 B1 m1 d1 Al ql cq' m V) (hb : Below V.heap.size V V') : IR W0 s x Ap np cp g5 g6 y l L AL nl cl g10 g11 Aq nq cq B0 m0 d0 B1 m1 d1 Al ql cq' m V' := h.keep (hb.mono h.lo)
theorem IR.in_ (h : IR W0 s x Ap np cp g5 g6 y l L AL nl cl g10 g11 Aq nq cq B0 m0 d0 B1 m1 d1 Al ql cq' m V) : (V.cell? ⟨g10, 0, none⟩ = some (.int .i64 x.id) ∧ V.cell? ⟨g10, 1, none⟩ = some (.int .i64 x.len) ∧ V.cell? ⟨g10, 2, none⟩ = some (.int .i64 x.gen) ∧ V.cell? ⟨g10, 3, none⟩ = some (.slice Aq nq cq)) ∧ (V.cell? ⟨g11, 0, none⟩ = some (.slice B0 m0 d0) ∧ V.cell? ⟨g11, 1, none⟩ = some (.slice B1 m1 d1)) :=
  ⟨⟨cell_of_row V _ 0 _ _ _ h.r10, cell_of_row V _ 1 _ _ _ h.r10, cell_of_row V _ 2 _ _ _ h.r10, cell_of_row V _ 3 _ _ _ h.r10⟩, ⟨cell_of_row V _ 0 _ _ _ h.r11, cell_of_row V _ 1 _ _ _ h.r11⟩⟩
end

/-- A need and slots in two boxes. -/
structure NO (R : Need × SlotsD × Int) (m m' gn gs : Nat) (A : Option Addr) (n c : Nat) (B : Option Addr) (k d : Nat) (A0 : Option Addr) (n0 c0 : Nat) (A1 : Option Addr) (n1 c1 : Nat) (V : World) : Prop where
  rn : V.heap[gn]? = some (.cells #[.int .i64 R.1.stripe, .slice A n c, .slice B k d] 88 (0, 0))
  rs : V.heap[gs]? = some (.cells #[.slice A0 n0 c0, .slice A1 n1 c1] 62 (0, 0))
  i : Sl true 3 intE V (fun b => m ≤ b ∧ b < m') A n c R.1.index
  t : Sl true 104 slotE V (fun b => m ≤ b ∧ b < m') B k d R.1.to
  l : Sl true 4 boolE V (fun b => m ≤ b ∧ b < m') A0 n0 c0 R.2.1.live
  f : Sl true 52 (slE true 3 intE) V (fun b => m ≤ b ∧ b < m') A1 n1 c1 R.2.1.free
  hn : m ≤ gn ∧ gn < m'
  hs : m ≤ gs ∧ gs < m'
  lo : m' ≤ V.heap.size
section
variable {R : Need × SlotsD × Int} {m m' gn gs : Nat} {A : Option Addr} {n c : Nat} {B : Option Addr} {k d : Nat} {A0 : Option Addr} {n0 c0 : Nat} {A1 : Option Addr} {n1 c1 : Nat} {V V' : World}
theorem NO.keep (h : NO R m m' gn gs A n c B k d A0 n0 c0 A1 n1 c1 V) (hb : Below m' V V') : NO R m m' gn gs A n c B k d A0 n0 c0 A1 n1 c1 V' :=
  ⟨(hb.block _ h.hn.2).trans h.rn, (hb.block _ h.hs.2).trans h.rs, h.i.below hb (fun _ k _ => k.2), h.t.below hb (fun _ k _ => k.2), h.l.below hb (fun _ k _ => k.2), h.f.below hb (fun _ k _ => k.2), h.hn, h.hs, Nat.le_trans h.lo hb.size⟩
theorem NO.all (h : NO R m m' gn gs A n c B k d A0 n0 c0 A1 n1 c1 V) (hb : Below V.heap.size V V') : NO R m m' gn gs A n c B k d A0 n0 c0 A1 n1 c1 V' := h.keep (hb.mono h.lo)
theorem NO.cells (h : NO R m m' gn gs A n c B k d A0 n0 c0 A1 n1 c1 V) : (V.cell? ⟨gn, 0, none⟩ = some (.int .i64 R.1.stripe) ∧ V.cell? ⟨gn, 1, none⟩ = some (.slice A n c) ∧ V.cell? ⟨gn, 2, none⟩ = some (.slice B k d)) ∧ (V.cell? ⟨gs, 0, none⟩ = some (.slice A0 n0 c0) ∧ V.cell? ⟨gs, 1, none⟩ = some (.slice A1 n1 c1)) :=
  ⟨⟨cell_of_row V _ 0 _ _ _ h.rn, cell_of_row V _ 1 _ _ _ h.rn, cell_of_row V _ 2 _ _ _ h.rn⟩, ⟨cell_of_row V _ 0 _ _ _ h.rs, cell_of_row V _ 1 _ _ _ h.rs⟩⟩
end

/-- Two boxes, made and filled. -/
theorem NO.made {R : Need × SlotsD × Int} {m : Nat} {w : World} {A : Option Addr} {n c : Nat} {B : Option Addr} {k d : Nat} {A0 : Option Addr} {n0 c0 : Nat} {A1 : Option Addr} {n1 c1 : Nat}
    (t1 : Sl true 3 intE w (fun b => m ≤ b) A n c R.1.index) (t2 : Sl true 104 slotE w (fun b => m ≤ b) B k d R.1.to) (t3 : Sl true 4 boolE w (fun b => m ≤ b) A0 n0 c0 R.2.1.live) (t4 : Sl true 52 (slE true 3 intE) w (fun b => m ≤ b) A1 n1 c1 R.2.1.free) (hm : m ≤ w.heap.size) :
    NO R m (w.heap.size + 1 + 1) w.heap.size (w.heap.size + 1) A n c B k d A0 n0 c0 A1 n1 c1 ((w.alloc (.cells #[.int .i64 R.1.stripe, .slice A n c, .slice B k d] 88)).alloc (.cells #[.slice A0 n0 c0, .slice A1 n1 c1] 62)) := by
  have hA : Below w.heap.size w ((w.alloc (.cells #[.int .i64 R.1.stripe, .slice A n c, .slice B k d] 88)).alloc (.cells #[.slice A0 n0 c0, .slice A1 n1 c1] 62)) := ((Below.refl _ _).alloc (Nat.le_refl _) _).alloc (by simp) _
  have hz : w.heap.size < (w.alloc (.cells #[.int .i64 R.1.stripe, .slice A n c, .slice B k d] 88)).heap.size := by simp
  have hs : (w.alloc (.cells #[.int .i64 R.1.stripe, .slice A n c, .slice B k d] 88)).heap.size = w.heap.size + 1 := by simp
  have hs2 : ((w.alloc (.cells #[.int .i64 R.1.stripe, .slice A n c, .slice B k d] 88)).alloc (.cells #[.slice A0 n0 c0, .slice A1 n1 c1] 62)).heap.size = w.heap.size + 1 + 1 := by simp
  have r0 := (Below.heap_alloc (w.alloc (.cells #[.int .i64 R.1.stripe, .slice A n c, .slice B k d] 88)) (.cells #[.slice A0 n0 c0, .slice A1 n1 c1] 62) _ hz).trans (heap_alloc_new w (.cells #[.int .i64 R.1.stripe, .slice A n c, .slice B k d] 88))
  have r1 := heap_alloc_new (w.alloc (.cells #[.int .i64 R.1.stripe, .slice A n c, .slice B k d] 88)) (.cells #[.slice A0 n0 c0, .slice A1 n1 c1] 62)
  rw [hs] at r1
  exact ⟨r0, r1, (t1.lt_block.all hA).mono (fun b hb _ => ⟨hb.1, by have := hb.2; omega⟩), (t2.lt_block.all hA).mono (fun b hb _ => ⟨hb.1, by have := hb.2; omega⟩), (t3.lt_block.all hA).mono (fun b hb _ => ⟨hb.1, by have := hb.2; omega⟩), (t4.lt_block.all hA).mono (fun b hb _ => ⟨hb.1, by have := hb.2; omega⟩),
    ⟨hm, by omega⟩, ⟨by omega, by omega⟩, Nat.le_of_eq hs2.symm⟩

theorem NO.zero (w : World) : NO (noNeed, ⟨[], []⟩, 1) w.heap.size (w.heap.size + 1 + 1) w.heap.size (w.heap.size + 1) none 0 0 none 0 0 none 0 0 none 0 0 ((w.alloc (.cells #[.int .i64 0, .slice none 0 0, .slice none 0 0] 88)).alloc (.cells #[.slice none 0 0, .slice none 0 0] 62)) ∧
    Below w.heap.size w ((w.alloc (.cells #[.int .i64 0, .slice none 0 0, .slice none 0 0] 88)).alloc (.cells #[.slice none 0 0, .slice none 0 0] 62)) :=
  ⟨NO.made (R := (noNeed, ⟨[], []⟩, 1)) (Sl.nil_ (by decide)) (Sl.nil_ (by decide)) (Sl.nil_ (by decide)) (Sl.nil_ (by decide)) (Nat.le_refl _), ((Below.refl _ _).alloc (Nat.le_refl _) _).alloc (by simp) _⟩

/-- What region 24's call gives. -/
def R24 (sb : Bool) (i : Nat) (v : Value) (_ : World) : Prop := i = 4 → v = .bool sb

/-- What region 19's steps give. -/
def R19 (x : Stripe) (y : SlotsD) (l : List Bool) (V : World) (i : Nat) (v : Value) (W : World) : Prop :=
  (i = 1 → ∃ A n c, v = .agg #[.int .i64 x.id, .int .i64 x.len, .int .i64 x.gen, .slice A n c] ∧ Sl true 104 slotE W (fun b => V.heap.size ≤ b) A n c x.place) ∧
  (i = 4 → ∃ A0 n0 c0 A1 n1 c1, v = .agg #[.slice A0 n0 c0, .slice A1 n1 c1] ∧ Sl true 4 boolE W (fun b => V.heap.size ≤ b) A0 n0 c0 y.live ∧ Sl true 52 (slE true 3 intE) W (fun b => V.heap.size ≤ b) A1 n1 c1 y.free) ∧
  (i = 9 → ∃ A n c, v = .slice A n c ∧ Sl true 4 boolE W (fun b => V.heap.size ≤ b) A n c l) ∧
  (i = 10 → ∃ g, v = .pointer (some ⟨g, 0, none⟩) ∧ V.heap.size ≤ g ∧ W.heap[g]? = some (.cells #[.int .i64 0, .int .i64 0, .int .i64 0, .slice none 0 0] 79 (0, 0))) ∧
  (i = 11 → ∃ g, v = .pointer (some ⟨g, 0, none⟩) ∧ V.heap.size ≤ g ∧ W.heap[g]? = some (.cells #[.slice none 0 0, .slice none 0 0] 62 (0, 0)))
theorem R19.all {x : Stripe} {y : SlotsD} {l : List Bool} {V W W' : World} (hb : Below W.heap.size W W') (j : Nat) (v : Value) (h : R19 x y l V j v W) : R19 x y l V j v W' := by
  obtain ⟨h1, h4, h9, h10, h11⟩ := h
  refine ⟨fun e => ?_, fun e => ?_, fun e => ?_, fun e => ?_, fun e => ?_⟩
  · obtain ⟨A, n, c, e, h⟩ := h1 e; exact ⟨A, n, c, e, h.all hb⟩
  · obtain ⟨A0, n0, c0, A1, n1, c1, e, h, h'⟩ := h4 e; exact ⟨A0, n0, c0, A1, n1, c1, e, h.all hb, h'.all hb⟩
  · obtain ⟨A, n, c, e, h⟩ := h9 e; exact ⟨A, n, c, e, h.all hb⟩
  · obtain ⟨g, e, hg, hr⟩ := h10 e; exact ⟨g, e, hg, (hb.block _ (Array.getElem?_eq_some_iff.1 hr).1).trans hr⟩
  · obtain ⟨g, e, hg, hr⟩ := h11 e; exact ⟨g, e, hg, (hb.block _ (Array.getElem?_eq_some_iff.1 hr).1).trans hr⟩
/-- What region 25's call gives. -/
def R25 (R : Need × SlotsD × Int) (V : World) (i : Nat) (v : Value) (W : World) : Prop :=
  i = 9 → ∃ A n c B k d A0 n0 c0 A1 n1 c1, v = .tuple #[.agg #[.int .i64 R.1.stripe, .slice A n c, .slice B k d], .agg #[.slice A0 n0 c0, .slice A1 n1 c1], .int .i64 R.2.2] ∧ Sl true 3 intE W (fun b => V.heap.size ≤ b) A n c R.1.index ∧ Sl true 104 slotE W (fun b => V.heap.size ≤ b) B k d R.1.to ∧
    Sl true 4 boolE W (fun b => V.heap.size ≤ b) A0 n0 c0 R.2.1.live ∧ Sl true 52 (slE true 3 intE) W (fun b => V.heap.size ≤ b) A1 n1 c1 R.2.1.free

theorem R25.all {R : Need × SlotsD × Int} {V W W' : World} (hb : Below W.heap.size W W') (j : Nat) (v : Value) (h : R25 R V j v W) : R25 R V j v W' := by
  intro e
  obtain ⟨A, n, c, B, k, d, A0, n0, c0, A1, n1, c1, rfl, t1, t2, t3, t4⟩ := h e
  exact ⟨_, _, _, _, _, _, _, _, _, _, _, _, rfl, t1.all hb, t2.all hb, t3.all hb, t4.all hb⟩
theorem stripeOk_dims {s : Shape} {x : Stripe} (h : stripeOk s x = true) : (1 ≤ s.K ∧ s.K ≤ 8 ∧ 0 ≤ s.M ∧ s.M ≤ 6) ∧ (x.place.length : Int) = s.K + s.M := by
  unfold stripeOk at h
  simp only [Bool.and_eq_true, decide_eq_true_eq] at h
  have h1 := h.1.1.1.1.1.1
  unfold shapeOk at h1
  have h2 := of_decide_eq_true h1
  exact ⟨⟨h2.1, h2.2.1, h2.2.2.1, h2.2.2.2.1⟩, h.1.2⟩
theorem needR_no {s : Shape} {x : Stripe} {y : SlotsD} {l : List Bool} {ql : Nat} {r sb : Bool} (hq : l.length = ql) (hr : stripeOk s x = r) (hs : slotsOkB y = sb) (h : (r && sb && decide ((ql : Int) = s.K + s.M)) = false) : needR s x y l = (noNeed, ⟨[], []⟩, 1) := by
  unfold needR
  rw [if_neg]
  rintro ⟨h1, h2, h3⟩
  subst hr hs hq
  rw [h1, h2, decide_eq_true h3] at h
  cases h
theorem needR_yes {s : Shape} {x : Stripe} {y : SlotsD} {l : List Bool} {ql : Nat} {r sb : Bool} (hq : l.length = ql) (hr : stripeOk s x = r) (hs : slotsOkB y = sb) (h : (r && sb && decide ((ql : Int) = s.K + s.M)) = true) : needR s x y l = needX s x y l ∧ stripeOk s x = true ∧ SlotsOk y ∧ (ql : Int) = s.K + s.M := by
  simp only [Bool.and_eq_true, decide_eq_true_eq] at h
  obtain ⟨⟨rfl, rfl⟩, h3⟩ := h
  subst hq
  unfold needR
  rw [if_pos ⟨hr, hs, h3⟩]
  exact ⟨rfl, hr, slotsOk_of hs, h3⟩

theorem IR.of19 {W0 wl W6 : World} {s : Shape} {x : Stripe} {Ap : Option Addr} {np cp g5 g6 : Nat} {y : SlotsD} {l : List Bool} {L : List (List Bool)} {AL : Option Addr} {nl cl g10 g11 : Nat} {Aq : Option Addr} {nq cq : Nat} {B0 : Option Addr} {m0 d0 : Nat} {B1 : Option Addr} {m1 d1 : Nat} {Al : Option Addr} {ql cq' : Nat} {S S' : Nat → Prop}
    (hnb : NB W0 s x Ap np cp g5 g6 wl) (hpl : Sl false 104 slotE wl S Ap np cp x.place) (hls : Sl false 30 (slE false 4 boolE) wl S' AL nl cl L) (hb : Below wl.heap.size wl W6)
    (t1 : Sl true 104 slotE W6 (fun b => wl.heap.size ≤ b) Aq nq cq x.place) (t2 : Sl true 4 boolE W6 (fun b => wl.heap.size ≤ b) B0 m0 d0 y.live) (t3 : Sl true 52 (slE true 3 intE) W6 (fun b => wl.heap.size ≤ b) B1 m1 d1 y.free)
    (t4 : Sl true 4 boolE W6 (fun b => wl.heap.size ≤ b) Al ql cq' l) (hg10 : wl.heap.size ≤ g10) (hg11 : wl.heap.size ≤ g11)
    (r10 : W6.heap[g10]? = some (.cells #[.int .i64 0, .int .i64 0, .int .i64 0, .slice none 0 0] 79 (0, 0))) (r11 : W6.heap[g11]? = some (.cells #[.slice none 0 0, .slice none 0 0] 62 (0, 0))) :
    IR W0 s x Ap np cp g5 g6 y l L AL nl cl g10 g11 Aq nq cq B0 m0 d0 B1 m1 d1 Al ql cq' (setAll g11 0 [.slice B0 m0 d0, .slice B1 m1 d1] (setAll g10 0 [.int .i64 x.id, .int .i64 x.len, .int .i64 x.gen, .slice Aq nq cq] W6)).heap.size (setAll g11 0 [.slice B0 m0 d0, .slice B1 m1 d1] (setAll g10 0 [.int .i64 x.id, .int .i64 x.len, .int .i64 x.gen, .slice Aq nq cq] W6)) := by
  have hne : g11 ≠ g10 := fun e => by rw [e, r10] at r11; cases r11
  have q11 := (setAll_other hne [.int .i64 x.id, .int .i64 x.len, .int .i64 x.gen, .slice Aq nq cq] 0 W6).trans r11
  have q10 := setAll_4 (a := .int .i64 x.id) (b := .int .i64 x.len) (c := .int .i64 x.gen) (d := .slice Aq nq cq) r10
  have hT1 : Turns (fun _ => True) 79 W6 (setAll g10 0 [.int .i64 x.id, .int .i64 x.len, .int .i64 x.gen, .slice Aq nq cq] W6) := Turns.setAll trivial _ _ _ _ (Turns.refl _ _ _) (shape_of_cells r10)
  have hB1 : Below wl.heap.size wl (setAll g10 0 [.int .i64 x.id, .int .i64 x.len, .int .i64 x.gen, .slice Aq nq cq] W6) := setAll_below hg10 _ _ _ hb
  generalize setAll g10 0 [.int .i64 x.id, .int .i64 x.len, .int .i64 x.gen, .slice Aq nq cq] W6 = W7 at *
  have p10 := (setAll_other (Ne.symm hne) [.slice B0 m0 d0, .slice B1 m1 d1] 0 W7).trans q10
  have p11 := setAll_2 (a := .slice B0 m0 d0) (b := .slice B1 m1 d1) q11
  have hT2 : Turns (fun _ => True) 62 W7 (setAll g11 0 [.slice B0 m0 d0, .slice B1 m1 d1] W7) := Turns.setAll trivial _ _ _ _ (Turns.refl _ _ _) (shape_of_cells q11)
  have hB := setAll_below hg11 [.slice B0 m0 d0, .slice B1 m1 d1] 0 _ hB1
  generalize setAll g11 0 [.slice B0 m0 d0, .slice B1 m1 d1] W7 = W8 at *
  exact ⟨hnb.all hB, Nat.lt_of_lt_of_le hnb.h5 hB.size, Nat.lt_of_lt_of_le hnb.h6 hB.size, (Array.getElem?_eq_some_iff.1 p10).1, (Array.getElem?_eq_some_iff.1 p11).1, (hpl.all hB).lt_block.mono (fun _ k _ => k.2), (hls.all hB).lt_block.mono (fun _ k _ => k.2), p10, p11,
    (hT2.sl (slotE_avoids _) (by decide) (hT1.sl (slotE_avoids _) (by decide) t1)).lt_block.mono (fun _ k _ => k.2),
    (hT2.sl (boolE_avoids _) (by decide) (hT1.sl (boolE_avoids _) (by decide) t2)).lt_block.mono (fun _ k _ => k.2),
    (hT2.sl (Avoids.slE (intE_avoids _) (by decide)) (by decide) (hT1.sl (Avoids.slE (intE_avoids _) (by decide)) (by decide) t3)).lt_block.mono (fun _ k _ => k.2),
    (hT2.sl (boolE_avoids _) (by decide) (hT1.sl (boolE_avoids _) (by decide) t4)).lt_block.mono (fun _ k _ => k.2), Nat.le_trans hnb.below.size hB.size, Nat.le_refl _⟩

theorem NO.of25 {V W6 : World} {R : Need × SlotsD × Int} {m gn gs : Nat} {A : Option Addr} {n c : Nat} {B : Option Addr} {k d : Nat} {A0 : Option Addr} {n0 c0 : Nat} {A1 : Option Addr} {n1 c1 : Nat} {a0 a1 a2 b0 b1 : Value} (hm : m ≤ V.heap.size)
    (t1 : Sl true 3 intE W6 (fun b => V.heap.size ≤ b) A n c R.1.index) (t2 : Sl true 104 slotE W6 (fun b => V.heap.size ≤ b) B k d R.1.to) (t3 : Sl true 4 boolE W6 (fun b => V.heap.size ≤ b) A0 n0 c0 R.2.1.live) (t4 : Sl true 52 (slE true 3 intE) W6 (fun b => V.heap.size ≤ b) A1 n1 c1 R.2.1.free)
    (rn : W6.heap[gn]? = some (.cells #[a0, a1, a2] 88 (0, 0))) (rs : W6.heap[gs]? = some (.cells #[b0, b1] 62 (0, 0))) (hn : m ≤ gn) (hs : m ≤ gs) :
    NO R m (setAll gs 0 [.slice A0 n0 c0, .slice A1 n1 c1] (setAll gn 0 [.int .i64 R.1.stripe, .slice A n c, .slice B k d] W6)).heap.size gn gs A n c B k d A0 n0 c0 A1 n1 c1 (setAll gs 0 [.slice A0 n0 c0, .slice A1 n1 c1] (setAll gn 0 [.int .i64 R.1.stripe, .slice A n c, .slice B k d] W6)) := by
  have hne : gs ≠ gn := fun e => by rw [e, rn] at rs; cases rs
  have q11 := (setAll_other hne [.int .i64 R.1.stripe, .slice A n c, .slice B k d] 0 W6).trans rs
  have q10 := setAll_3 (a := .int .i64 R.1.stripe) (b := .slice A n c) (c := .slice B k d) rn
  have hT1 : Turns (fun _ => True) 88 W6 (setAll gn 0 [.int .i64 R.1.stripe, .slice A n c, .slice B k d] W6) := Turns.setAll trivial _ _ _ _ (Turns.refl _ _ _) (shape_of_cells rn)
  generalize setAll gn 0 [.int .i64 R.1.stripe, .slice A n c, .slice B k d] W6 = W7 at *
  have p10 := (setAll_other (Ne.symm hne) [.slice A0 n0 c0, .slice A1 n1 c1] 0 W7).trans q10
  have p11 := setAll_2 (a := .slice A0 n0 c0) (b := .slice A1 n1 c1) q11
  have hT2 : Turns (fun _ => True) 62 W7 (setAll gs 0 [.slice A0 n0 c0, .slice A1 n1 c1] W7) := Turns.setAll trivial _ _ _ _ (Turns.refl _ _ _) (shape_of_cells q11)
  generalize setAll gs 0 [.slice A0 n0 c0, .slice A1 n1 c1] W7 = W8 at *
  exact ⟨p10, p11, (hT2.sl (intE_avoids _) (by decide) (hT1.sl (intE_avoids _) (by decide) t1)).lt_block.mono (fun _ k _ => ⟨Nat.le_trans hm k.1, k.2⟩), (hT2.sl (slotE_avoids _) (by decide) (hT1.sl (slotE_avoids _) (by decide) t2)).lt_block.mono (fun _ k _ => ⟨Nat.le_trans hm k.1, k.2⟩),
    (hT2.sl (boolE_avoids _) (by decide) (hT1.sl (boolE_avoids _) (by decide) t3)).lt_block.mono (fun _ k _ => ⟨Nat.le_trans hm k.1, k.2⟩), (hT2.sl (Avoids.slE (intE_avoids _) (by decide)) (by decide) (hT1.sl (Avoids.slE (intE_avoids _) (by decide)) (by decide) t4)).lt_block.mono (fun _ k _ => ⟨Nat.le_trans hm k.1, k.2⟩),
    ⟨hn, (Array.getElem?_eq_some_iff.1 p10).1⟩, ⟨hs, (Array.getElem?_eq_some_iff.1 p11).1⟩, Nat.le_refl _⟩
end Go.Proofs.Ytfccghfcilccfaa
