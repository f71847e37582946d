/- silolaw11.step: an act on both: each call is the page's. -/
import Derived.Test.YtfccghfcilccfaaA7
import Derived.Test.YtfccghfcilccfaaA4
import Derived.Test.YtfccghfcilccfaaA2
import Derived.Test.YtfccghfcilccfaaT6
import Derived.Test.YtfccghfcilccfaaT7
import Derived.Deep.CutBlock
import Derived.Test.YtfccghfcilccfaaB4
namespace Go.Proofs.Ytfccghfcilccfaa
open Go.RowKit Go.Silo

/-- Slots that are played. -/
def SmallX (x : SlotsD) : Prop := x.live.length ≤ 1000000 ∧ x.free.length ≤ 1000000 ∧ ∀ l ∈ x.free, l.length ≤ 1000000
theorem SmallX.rows {x : SlotsD} (h : SmallX x) : ∀ l ∈ x.free, l.length ≤ 100000000 := fun l hl => by have := h.2.2 l hl; omega
theorem small_tails : ∀ (ds : List Int) (f : List (List Int)) (K : Nat), (∀ l ∈ f, l.length ≤ K) → (ds.foldl tailAt f).length = f.length ∧ ∀ l ∈ ds.foldl tailAt f, l.length ≤ K
  | [], f, K, h => ⟨rfl, h⟩
  | d :: ds, f, K, h => by
    have h2 : ∀ l ∈ tailAt f d, l.length ≤ K := fun l hl => by
      unfold tailAt at hl
      rcases List.mem_or_eq_of_mem_set hl with hl | rfl
      · exact h l hl
      · rw [List.length_tail]
        rcases Nat.lt_or_ge d.toNat f.length with hd | hd
        · have := h _ (getD_mem (d := []) hd); omega
        · rw [List.getD_eq_getElem?_getD, List.getElem?_eq_none hd]; simp
    obtain ⟨h3, h4⟩ := small_tails ds (tailAt f d) K h2
    exact ⟨by rw [List.foldl_cons, h3]; unfold tailAt; rw [List.length_set], h4⟩
theorem small_ok {x : SlotsD} (h : SlotsOk x) : SmallX x := by
  have h1 := h.most
  have h2 := h.same
  exact ⟨by omega, by omega, fun l hl => by have := pigeon (h.free l hl); omega⟩
theorem small_take {x : SlotsD} (h : SlotsOk x) (n : Nat) (not : List Int) : SmallX (takeX x n not) := by
  obtain ⟨h1, h2, h3⟩ := small_ok h
  obtain ⟨g1, g2⟩ := small_tails (chosen x n not) x.free 1000000 h3
  exact ⟨h1, by unfold takeX; simp only; omega, g2⟩
theorem small_give {x : SlotsD} (h : SlotsOk x) (d : Nat) (a : Int) : SmallX (giveX x d a) := by
  have h1 := h.most
  have h2 := h.same
  refine ⟨by unfold giveX; simp only; omega, by unfold giveX; simp only [List.length_set]; omega, fun l hl => ?_⟩
  unfold giveX at hl
  rcases List.mem_or_eq_of_mem_set hl with hl | rfl
  · have := pigeon (h.free l hl); omega
  · have : (insAt ((x.free.getD d []).countP (· < a)) a (x.free.getD d [])).length ≤ (x.free.getD d []).length + 1 := by unfold insAt; simp; omega
    rcases Nat.lt_or_ge d x.free.length with hd | hd
    · have := pigeon (h.free _ (getD_mem (d := []) hd)); omega
    · have hz : x.free.getD d [] = [] := by rw [List.getD_eq_getElem?_getD, List.getElem?_eq_none hd]; rfl
      rw [hz] at this ⊢
      have h0 : ([] : List Int).length = 0 := rfl
      omega
theorem small_live {x : SlotsD} (h : SlotsOk x) (d : Nat) (is : Bool) {n : Nat} (hn : n ≤ 64) : SmallX (liveX x d is n) := by
  have h1 := h.most
  have h2 := h.same
  have h3 : ∀ l ∈ x.free, l.length ≤ 1000000 := (small_ok h).2.2
  have h4 : (x.live.set d is).length ≤ 1000000 := by rw [List.length_set]; omega
  unfold liveX
  by_cases hc : is = true ∧ x.live.getD d false = false
  · rw [if_pos hc]
    refine ⟨h4, by rw [List.length_set]; omega, fun l hl => ?_⟩
    rcases List.mem_or_eq_of_mem_set hl with hl | rfl
    · exact h3 l hl
    · rw [upto_len]; omega
  · rw [if_neg hc]
    exact ⟨h4, (show x.free.length ≤ 1000000 by omega), h3⟩

/-- Where the act is chosen, and behind: the boxes of x, of the act, of the result, of in, of y and of want. -/
structure SW (w : World) (S : Nat → Prop) (x : SlotsD) (va : List Value) (A0 : Option Addr) (n0 c0 : Nat) (A1 : Option Addr) (n1 c1 : Nat) (B0 : Option Addr) (m0 k0 : Nat) (B1 : Option Addr) (m1 k1 : Nat) (b6 b9 : Nat) (u0 u1 v0 v1 : Value) (V : World) : Prop where
  x0 : Sl true 4 boolE V (fun b => S b ∧ b < w.heap.size) A0 n0 c0 x.live
  x1 : Sl true 52 (slE true 3 intE) V (fun b => S b ∧ b < w.heap.size) A1 n1 c1 x.free
  i0 : Sl true 4 boolE V (fun b => w.heap.size + 3 ≤ b ∧ b < b6) B0 m0 k0 x.live
  i1 : Sl true 52 (slE true 3 intE) V (fun b => w.heap.size + 3 ≤ b ∧ b < b6) B1 m1 k1 x.free
  bx : V.heap[w.heap.size]? = some (.cells #[.slice A0 n0 c0, .slice A1 n1 c1] 62 (0, 0))
  ba : V.heap[w.heap.size + 1]? = some (.cells va.toArray 135 (0, 0))
  br : V.heap[w.heap.size + 2]? = some (.cells #[.slice none 0 0, .slice none 0 0] 62 (0, 0))
  bi : V.heap[b6]? = some (.cells #[.slice B0 m0 k0, .slice B1 m1 k1] 62 (0, 0))
  by_ : V.heap[b9]? = some (.cells #[u0, u1] 62 (0, 0))
  bw : V.heap[b9 + 1]? = some (.cells #[v0, v1] 62 (0, 0))
  below : Below w.heap.size w V
  lo : w.heap.size + 3 ≤ b6
  le : b6 < b9
  hi : b9 + 1 < V.heap.size
section
variable {w : World} {S : Nat → Prop} {x : SlotsD} {va : List Value} {A0 A1 B0 B1 : Option Addr} {n0 c0 n1 c1 m0 k0 m1 k1 b6 b9 : Nat} {u0 u1 v0 v1 p q : Value} {V V' : World}
theorem SW.frame (h : SW w S x va A0 n0 c0 A1 n1 c1 B0 m0 k0 B1 m1 k1 b6 b9 u0 u1 v0 v1 V) (hb : ∀ b, b ≤ b9 + 1 → V'.heap[b]? = V.heap[b]?) (hs : V.heap.size ≤ V'.heap.size) (hB : Below w.heap.size w V') : SW w S x va A0 n0 c0 A1 n1 c1 B0 m0 k0 B1 m1 k1 b6 b9 u0 u1 v0 v1 V' := by
  have h1 := h.lo
  have h2 := h.le
  have h3 := h.hi
  exact ⟨h.x0.frame (fun b hb' _ => hb b (by omega)) hs, h.x1.frame (fun b hb' _ => hb b (by omega)) hs, h.i0.frame (fun b hb' _ => hb b (by omega)) hs, h.i1.frame (fun b hb' _ => hb b (by omega)) hs,
    (hb _ (by omega)).trans h.bx, (hb _ (by omega)).trans h.ba, (hb _ (by omega)).trans h.br, (hb _ (by omega)).trans h.bi, (hb _ (by omega)).trans h.by_, (hb _ (by omega)).trans h.bw, hB, h1, h2, by omega⟩
theorem SW.all (h : SW w S x va A0 n0 c0 A1 n1 c1 B0 m0 k0 B1 m1 k1 b6 b9 u0 u1 v0 v1 V) (hb : Below V.heap.size V V') : SW w S x va A0 n0 c0 A1 n1 c1 B0 m0 k0 B1 m1 k1 b6 b9 u0 u1 v0 v1 V' := by
  have h1 := h.lo
  have h2 := h.le
  have h3 := h.hi
  exact h.frame (fun b hb' => hb.block b (by omega)) hb.size (h.below.trans (hb.mono (by omega)))
theorem SW.sy (h : SW w S x va A0 n0 c0 A1 n1 c1 B0 m0 k0 B1 m1 k1 b6 b9 u0 u1 v0 v1 V) : SW w S x va A0 n0 c0 A1 n1 c1 B0 m0 k0 B1 m1 k1 b6 b9 p q v0 v1 ((V.setCell ⟨b9, 0, none⟩ p).setCell ⟨b9, 1, none⟩ q) := by
  have h1 := h.lo
  have h2 := h.le
  have h3 := h.hi
  have hb : ∀ b, b ≠ b9 → ((V.setCell ⟨b9, 0, none⟩ p).setCell ⟨b9, 1, none⟩ q).heap[b]? = V.heap[b]? := fun b hb => by rw [Below.heap_setCell _ _ _ _ hb, Below.heap_setCell _ _ _ _ hb]
  have hs : V.heap.size ≤ ((V.setCell ⟨b9, 0, none⟩ p).setCell ⟨b9, 1, none⟩ q).heap.size := by simp
  exact ⟨h.x0.frame (fun b hb' _ => hb b (by omega)) hs, h.x1.frame (fun b hb' _ => hb b (by omega)) hs, h.i0.frame (fun b hb' _ => hb b (by omega)) hs, h.i1.frame (fun b hb' _ => hb b (by omega)) hs,
    (hb _ (by omega)).trans h.bx, (hb _ (by omega)).trans h.ba, (hb _ (by omega)).trans h.br, (hb _ (by omega)).trans h.bi, row_set2 h.by_, (hb _ (by omega)).trans h.bw, (h.below.setCell (by show w.heap.size ≤ b9; omega) _).setCell (by show w.heap.size ≤ b9; omega) _, h1, h2, by simpa using h3⟩
theorem SW.sw (h : SW w S x va A0 n0 c0 A1 n1 c1 B0 m0 k0 B1 m1 k1 b6 b9 u0 u1 v0 v1 V) : SW w S x va A0 n0 c0 A1 n1 c1 B0 m0 k0 B1 m1 k1 b6 b9 u0 u1 p q ((V.setCell ⟨b9 + 1, 0, none⟩ p).setCell ⟨b9 + 1, 1, none⟩ q) := by
  have h1 := h.lo
  have h2 := h.le
  have h3 := h.hi
  have hb : ∀ b, b ≠ b9 + 1 → ((V.setCell ⟨b9 + 1, 0, none⟩ p).setCell ⟨b9 + 1, 1, none⟩ q).heap[b]? = V.heap[b]? := fun b hb => by rw [Below.heap_setCell _ _ _ _ hb, Below.heap_setCell _ _ _ _ hb]
  have hs : V.heap.size ≤ ((V.setCell ⟨b9 + 1, 0, none⟩ p).setCell ⟨b9 + 1, 1, none⟩ q).heap.size := by simp
  exact ⟨h.x0.frame (fun b hb' _ => hb b (by omega)) hs, h.x1.frame (fun b hb' _ => hb b (by omega)) hs, h.i0.frame (fun b hb' _ => hb b (by omega)) hs, h.i1.frame (fun b hb' _ => hb b (by omega)) hs,
    (hb _ (by omega)).trans h.bx, (hb _ (by omega)).trans h.ba, (hb _ (by omega)).trans h.br, (hb _ (by omega)).trans h.bi, (hb _ (by omega)).trans h.by_, row_set2 h.bw, (h.below.setCell (by show w.heap.size ≤ b9 + 1; omega) _).setCell (by show w.heap.size ≤ b9 + 1; omega) _, h1, h2, by simpa using h3⟩
end

/-- What step answers: slots, and true. -/
def RetStep (S : Nat → Prop) (w : World) (e : Ending) (w' : World) : Prop :=
  ∃ x : SlotsD, ∃ A0 n0 c0 A1 n1 c1, e = .returned (.tuple #[.agg #[.slice A0 n0 c0, .slice A1 n1 c1], .bool true]) ∧ SmallX x ∧ Sl true 4 boolE w' (fun b => S b ∨ w.heap.size ≤ b) A0 n0 c0 x.live ∧
    Sl true 52 (slE true 3 intE) w' (fun b => S b ∨ w.heap.size ≤ b) A1 n1 c1 x.free ∧ Below w.heap.size w w'

/-- Behind the act: both have answered alike. -/
structure SD (w : World) (S : Nat → Prop) (x : SlotsD) (va : List Value) (A0 : Option Addr) (n0 c0 : Nat) (A1 : Option Addr) (n1 c1 : Nat) (B0 : Option Addr) (m0 k0 : Nat) (B1 : Option Addr) (m1 k1 : Nat) (b6 b9 : Nat) (y : SlotsD) (l : List Slot) (C0 : Option Addr) (p0 q0 : Nat) (C1 : Option Addr) (p1 q1 : Nat) (D0 : Option Addr) (r0 t0 : Nat) (D1 : Option Addr) (r1 t1 : Nat) (E : Option Addr) (ne ce : Nat) (F : Option Addr) (nf cf hi : Nat) (V : World) : Prop where
  sw : SW w S x va A0 n0 c0 A1 n1 c1 B0 m0 k0 B1 m1 k1 b6 b9 (.slice C0 p0 q0) (.slice C1 p1 q1) (.slice D0 r0 t0) (.slice D1 r1 t1) V
  y0 : Sl true 4 boolE V (fun b => b9 + 1 < b ∧ b < hi) C0 p0 q0 y.live
  y1 : Sl true 52 (slE true 3 intE) V (fun b => b9 + 1 < b ∧ b < hi) C1 p1 q1 y.free
  d0 : Sl true 4 boolE V (fun b => hi ≤ b) D0 r0 t0 y.live
  d1 : Sl true 52 (slE true 3 intE) V (fun b => hi ≤ b) D1 r1 t1 y.free
  l0 : Sl true 104 slotE V (fun b => b9 + 1 < b) E ne ce l
  l1 : Sl true 104 slotE V (fun b => b9 + 1 < b) F nf cf l
  hh : b9 + 1 < hi
def CutS (w : World) (S : Nat → Prop) (x : SlotsD) (va : List Value) (A0 : Option Addr) (n0 c0 : Nat) (A1 : Option Addr) (n1 c1 : Nat) (B0 : Option Addr) (m0 k0 : Nat) (B1 : Option Addr) (m1 k1 : Nat) (b6 b9 : Nat) (s8 s11 s12 s13 : Value) (V : World) : Prop :=
  ∃ e : Int, ∃ y : SlotsD, ∃ l : List Slot, ∃ C0 p0 q0 C1 p1 q1 D0 r0 t0 D1 r1 t1 E ne ce F nf cf hi, s8 = .int .i64 e ∧ s13 = .int .i64 e ∧ s11 = .slice E ne ce ∧ s12 = .slice F nf cf ∧ (e = 0 → SmallX y) ∧
    SD w S x va A0 n0 c0 A1 n1 c1 B0 m0 k0 B1 m1 k1 b6 b9 y l C0 p0 q0 C1 p1 q1 D0 r0 t0 D1 r1 t1 E ne ce F nf cf hi V
section
variable {w : World} {S : Nat → Prop} {x : SlotsD} {va : List Value} {A0 A1 B0 B1 : Option Addr} {n0 c0 n1 c1 m0 k0 m1 k1 b6 b9 : Nat} {s0 s1 v0 v1 u0 u1 v0' v1' : Option Addr} {V V' : World}
variable {y : SlotsD} {l : List Slot} {C0 C1 D0 D1 E F : Option Addr} {p0 q0 p1 q1 r0 t0 r1 t1 ne ce nf cf hi : Nat}
theorem SD.all (h : SD w S x va A0 n0 c0 A1 n1 c1 B0 m0 k0 B1 m1 k1 b6 b9 y l C0 p0 q0 C1 p1 q1 D0 r0 t0 D1 r1 t1 E ne ce F nf cf hi V) (hb : Below V.heap.size V V') : SD w S x va A0 n0 c0 A1 n1 c1 B0 m0 k0 B1 m1 k1 b6 b9 y l C0 p0 q0 C1 p1 q1 D0 r0 t0 D1 r1 t1 E ne ce F nf cf hi V' :=
  ⟨h.sw.all hb, h.y0.all hb, h.y1.all hb, h.d0.all hb, h.d1.all hb, h.l0.all hb, h.l1.all hb, h.hh⟩
theorem SW.cx {u0 u1 v0 v1 : Value} (h : SW w S x va A0 n0 c0 A1 n1 c1 B0 m0 k0 B1 m1 k1 b6 b9 u0 u1 v0 v1 V) : V.cell? ⟨w.heap.size, 0, none⟩ = some (.slice A0 n0 c0) ∧ V.cell? ⟨w.heap.size, 1, none⟩ = some (.slice A1 n1 c1) :=
  ⟨cell_of_row V _ 0 _ _ _ h.bx, cell_of_row V _ 1 _ _ _ h.bx⟩
theorem SW.ci {u0 u1 v0 v1 : Value} (h : SW w S x va A0 n0 c0 A1 n1 c1 B0 m0 k0 B1 m1 k1 b6 b9 u0 u1 v0 v1 V) : V.cell? ⟨b6, 0, none⟩ = some (.slice B0 m0 k0) ∧ V.cell? ⟨b6, 1, none⟩ = some (.slice B1 m1 k1) :=
  ⟨cell_of_row V _ 0 _ _ _ h.bi, cell_of_row V _ 1 _ _ _ h.bi⟩
theorem SW.cy {u0 u1 v0 v1 : Value} (h : SW w S x va A0 n0 c0 A1 n1 c1 B0 m0 k0 B1 m1 k1 b6 b9 u0 u1 v0 v1 V) : V.cell? ⟨b9, 0, none⟩ = some u0 ∧ V.cell? ⟨b9, 1, none⟩ = some u1 ∧ V.frozen? ⟨b9, 0, none⟩ = false ∧ V.frozen? ⟨b9, 1, none⟩ = false :=
  ⟨cell_of_row V _ 0 _ _ _ h.by_, cell_of_row V _ 1 _ _ _ h.by_, frozen_of_row V _ 0 _ _ h.by_, frozen_of_row V _ 1 _ _ h.by_⟩
theorem SW.cw {u0 u1 v0 v1 : Value} (h : SW w S x va A0 n0 c0 A1 n1 c1 B0 m0 k0 B1 m1 k1 b6 b9 u0 u1 v0 v1 V) : V.cell? ⟨b9 + 1, 0, none⟩ = some v0 ∧ V.cell? ⟨b9 + 1, 1, none⟩ = some v1 ∧ V.frozen? ⟨b9 + 1, 0, none⟩ = false ∧ V.frozen? ⟨b9 + 1, 1, none⟩ = false :=
  ⟨cell_of_row V _ 0 _ _ _ h.bw, cell_of_row V _ 1 _ _ _ h.bw, frozen_of_row V _ 0 _ _ h.bw, frozen_of_row V _ 1 _ _ h.bw⟩
theorem SW.cr {u0 u1 v0 v1 : Value} (h : SW w S x va A0 n0 c0 A1 n1 c1 B0 m0 k0 B1 m1 k1 b6 b9 u0 u1 v0 v1 V) : V.cell? ⟨w.heap.size + 1 + 1, 0, none⟩ = some (.slice none 0 0) ∧ V.cell? ⟨w.heap.size + 1 + 1, 1, none⟩ = some (.slice none 0 0) ∧ V.frozen? ⟨w.heap.size + 1 + 1, 0, none⟩ = false ∧ V.frozen? ⟨w.heap.size + 1 + 1, 1, none⟩ = false :=
  ⟨cell_of_row V _ 0 _ _ _ h.br, cell_of_row V _ 1 _ _ _ h.br, frozen_of_row V _ 0 _ _ h.br, frozen_of_row V _ 1 _ _ h.br⟩
end

/-- The last act's region: what its steps have made of the memory. -/
def WdC (e8 : Int) (wc : World) (p q : Value) (b : Nat) (us : List (Nat × Value)) (V : World) : Prop :=
  (∀ v, (2, v) ∈ us → v = .int .i64 e8) ∧ (∀ v, (13, v) ∈ us → v = .bool true) ∧ (15 ∈ us.map Prod.fst → 13 ∈ us.map Prod.fst) ∧ (15 ∉ us.map Prod.fst → Below wc.heap.size wc V) ∧
    (15 ∈ us.map Prod.fst → ∃ U, Below wc.heap.size wc U ∧ Below ((U.setCell ⟨b, 0, none⟩ p).setCell ⟨b, 1, none⟩ q).heap.size ((U.setCell ⟨b, 0, none⟩ p).setCell ⟨b, 1, none⟩ q) V)
theorem lookup_at {us : List (Nat × Value)} {c : Nat} {x : Value} (hm : c ∈ us.map Prod.fst) (h : ∀ v, (c, v) ∈ us → v = x) : (us.lookup c).getD undef = x := by
  induction us with
  | nil => simp at hm
  | cons p us ih =>
    obtain ⟨a, b⟩ := p
    rw [List.lookup_cons]
    by_cases hc : c = a
    · subst hc
      simp only [beq_self_eq_true]
      exact h b (List.mem_cons_self ..)
    · have hne : (c == a) = false := by simpa using hc
      rw [hne]
      exact ih (by simpa [hc] using hm) (fun v hv => h v (List.mem_cons_of_mem _ hv))
section
variable {e8 : Int} {wc V V' : World} {p q : Value} {b : Nat} {us : List (Nat × Value)}
theorem WdC.init (e8 : Int) (wc : World) (p q : Value) (b : Nat) : WdC e8 wc p q b [] wc.drew := ⟨fun _ h => (by cases h), fun _ h => (by cases h), fun h => (by cases h), fun _ => (Below.refl _ _).drew, fun h => (by cases h)⟩
theorem WdC.below (h : WdC e8 wc p q b us V) (hn : 15 ∉ us.map Prod.fst) : Below wc.heap.size wc V := h.2.2.2.1 hn
theorem WdC.le (h : WdC e8 wc p q b us V) (hn : 15 ∈ us.map Prod.fst) : 13 ∈ us.map Prod.fst := h.2.2.1 hn
theorem WdC.at2 (h : WdC e8 wc p q b us V) (hm : 2 ∈ us.map Prod.fst) : (us.lookup 2).getD undef = .int .i64 e8 := lookup_at hm h.1
theorem WdC.at13 (h : WdC e8 wc p q b us V) (hm : 13 ∈ us.map Prod.fst) : (us.lookup 13).getD undef = .bool true := lookup_at hm h.2.1
theorem WdC.call {i : Nat} {x : Value} (h : WdC e8 wc p q b us V) (hb : Below V.heap.size V V') (hi : i ≠ 15) (h2 : i = 2 → x = .int .i64 e8) (h13 : i = 13 → x = .bool true) : WdC e8 wc p q b (us ++ [(i, x)]) V' := by
  have hm : 15 ∈ (us ++ [(i, x)]).map Prod.fst ↔ 15 ∈ us.map Prod.fst := by
    rw [List.map_append, List.mem_append]
    constructor
    · rintro (h | h)
      · exact h
      · simp at h; exact absurd h.symm hi
    · exact .inl
  refine ⟨fun v hv => ?_, fun v hv => ?_, fun h15 => ?_, fun h15 => ?_, fun h15 => ?_⟩
  · rcases List.mem_append.1 hv with hv | hv
    · exact h.1 v hv
    · simp at hv; rw [hv.2]; exact h2 hv.1.symm
  · rcases List.mem_append.1 hv with hv | hv
    · exact h.2.1 v hv
    · simp at hv; rw [hv.2]; exact h13 hv.1.symm
  · rw [List.map_append]; exact List.mem_append_left _ (h.2.2.1 (hm.1 h15))
  · have h1 := h.2.2.2.1 (fun hh => h15 (hm.2 hh))
    exact h1.trans (hb.mono h1.size)
  · obtain ⟨U, h1, h3⟩ := h.2.2.2.2 (hm.1 h15)
    exact ⟨U, h1, h3.trans (hb.mono h3.size)⟩
theorem WdC.store {x : Value} (h : WdC e8 wc p q b us V) (hn : 15 ∉ us.map Prod.fst) (h13 : 13 ∈ us.map Prod.fst) : WdC e8 wc p q b (us ++ [(15, x)]) ((V.setCell ⟨b, 0, none⟩ p).setCell ⟨b, 1, none⟩ q) := by
  refine ⟨fun v hv => ?_, fun v hv => ?_, fun h15 => ?_, fun h15 => absurd ?_ h15, fun _ => ⟨V, h.2.2.2.1 hn, Below.refl _ _⟩⟩
  · rcases List.mem_append.1 hv with hv | hv
    · exact h.1 v hv
    · simp at hv
  · rcases List.mem_append.1 hv with hv | hv
    · exact h.2.1 v hv
    · simp at hv
  · rw [List.map_append]; exact List.mem_append_left _ h13
  · simp
end

set_option maxRecDepth 100000 in
set_option maxHeartbeats 16000000 in
theorem step_c {tg2 : Bool} {T : TypeId} {S S2 : Nat → Prop} {w : World} {A0 A1 A6 : Option Addr} {n0 c0 n1 c1 n6 c6 : Nat} {x : SlotsD} {a : ActD} (hsm : SmallX x) (hal : a.l.length ≤ 1000000) (hI : I64 a.act ∧ I64 a.d ∧ I64 a.n ∧ I64 a.disk ∧ I64 a.pos)
    (h0 : Sl true 4 boolE w S A0 n0 c0 x.live) (h1 : Sl true 52 (slE true 3 intE) w S A1 n1 c1 x.free) (h6 : Sl tg2 T intE w S2 A6 n6 c6 a.l) :
    Calls Try.prog 80 #[.agg #[.slice A0 n0 c0, .slice A1 n1 c1], .agg #[.int .i64 a.act, .int .i64 a.d, .int .i64 a.n, .bool a.is, .int .i64 a.disk, .int .i64 a.pos, .slice A6 n6 c6]] w (RetStep S w) := by
  have HL0 := Lib.hid h0.len
  have HL1 := Lib.hid h1.len
  have HL6 := Lib.hid h6.len
  have HSM := Lib.hid hsm; clear hsm
  have hn6 : n6 ≤ 1000000 := by have := HL6.out; omega
  clear hal
  obtain ⟨⟨i1, i2⟩, ⟨i3, i4⟩, ⟨i5, i6⟩, ⟨i7, i8⟩, ⟨i9, i10⟩⟩ := hI
  have hcp := fun W (hW : Below w.heap.size w W) => CopySlots_c (w := W) (h0.all hW) (h1.all hW) (by have := HL0.out; have := HSM.out.1; omega) (by have := HL1.out; have := HSM.out.2.1; omega) HSM.out.rows
  have HCP := Lib.hid hcp; clear hcp
  have hX := fun W (hW : Below w.heap.size w W) => (⟨h0.lt_block.all hW, h1.lt_block.all hW⟩ : Sl true 4 boolE W (fun b => S b ∧ b < w.heap.size) A0 n0 c0 x.live ∧ Sl true 52 (slE true 3 intE) W (fun b => S b ∧ b < w.heap.size) A1 n1 c1 x.free)
  have HX := Lib.hid hX; clear hX
  have HN := Lib.hid (fun W (hW : Below w.heap.size w W) => h6.all hW)
  clear h0 h1 h6
  generalize hva : ([.int .i64 a.act, .int .i64 a.d, .int .i64 a.n, .bool a.is, .int .i64 a.disk, .int .i64 a.pos, .slice A6 n6 c6] : List Value) = va
  have HVA := Lib.hid hva; clear hva
  have hw0 : (((w.alloc (.cells #[.slice A0 n0 c0, .slice A1 n1 c1] 62)).alloc (.cells va.toArray 135)).alloc (.cells #[.slice none 0 0, .slice none 0 0] 62)).heap[w.heap.size]? = some (.cells #[.slice A0 n0 c0, .slice A1 n1 c1] 62 (0, 0)) := by
    rw [Below.heap_alloc _ _ _ (by simp; omega), Below.heap_alloc _ _ _ (by simp)]; exact heap_alloc_new _ _
  have hw1 : (((w.alloc (.cells #[.slice A0 n0 c0, .slice A1 n1 c1] 62)).alloc (.cells va.toArray 135)).alloc (.cells #[.slice none 0 0, .slice none 0 0] 62)).heap[w.heap.size + 1]? = some (.cells va.toArray 135 (0, 0)) := by
    rw [Below.heap_alloc _ _ _ (by simp)]
    have := heap_alloc_new (w.alloc (.cells #[.slice A0 n0 c0, .slice A1 n1 c1] 62)) (.cells va.toArray 135)
    rw [World.size_alloc] at this; exact this
  have hw2 : (((w.alloc (.cells #[.slice A0 n0 c0, .slice A1 n1 c1] 62)).alloc (.cells va.toArray 135)).alloc (.cells #[.slice none 0 0, .slice none 0 0] 62)).heap[w.heap.size + 2]? = some (.cells #[.slice none 0 0, .slice none 0 0] 62 (0, 0)) := by
    have := heap_alloc_new ((w.alloc (.cells #[.slice A0 n0 c0, .slice A1 n1 c1] 62)).alloc (.cells va.toArray 135)) (.cells #[.slice none 0 0, .slice none 0 0] 62)
    rw [World.size_alloc, World.size_alloc] at this; exact this
  have hB0 : Below w.heap.size w (((w.alloc (.cells #[.slice A0 n0 c0, .slice A1 n1 c1] 62)).alloc (.cells va.toArray 135)).alloc (.cells #[.slice none 0 0, .slice none 0 0] 62)) := (by repeat' (first | (with_reducible exact Below.refl _ _) | (with_reducible refine Below.alloc ?_ ?_ _) | (with_reducible refine Below.drew ?_) | (with_reducible refine below_drewN ?_ _) | (with_reducible refine Below.setCell ?_ ?_ _) | (refine via ?_ (by with_reducible assumption) ?_) | (refine via ?_ (below_ext _ _) ?_) | go_size))
  have hz0 : (((w.alloc (.cells #[.slice A0 n0 c0, .slice A1 n1 c1] 62)).alloc (.cells va.toArray 135)).alloc (.cells #[.slice none 0 0, .slice none 0 0] 62)).heap.size = w.heap.size + 3 := by simp
  go_enter Try.func80, Try.ntmps80
  go_wp2_with fail
  refine (HCP.out _ hB0).mono ?_
  generalize (((w.alloc (.cells #[.slice A0 n0 c0, .slice A1 n1 c1] 62)).alloc (.cells va.toArray 135)).alloc (.cells #[.slice none 0 0, .slice none 0 0] 62)) = w0 at *
  rintro e w1 ⟨vs, rfl, ⟨B0, m0, k0, B1, m1, k1, rfl, _, hs0, hs1⟩, hb1⟩
  have s1 := hb1.size
  have hB1 := via hB0 hb1 (by omega)
  have hx1 := (hb1.block w.heap.size (by omega)).trans hw0
  have ha1 := (hb1.block (w.heap.size + 1) (by omega)).trans hw1
  have hr1 := (hb1.block (w.heap.size + 2) (by omega)).trans hw2
  have p0 := (cell_of_row w1 w.heap.size 0 _ _ _ hx1).trans (show _ = some (Value.slice A0 n0 c0) from rfl)
  have p1 := (cell_of_row w1 w.heap.size 1 _ _ _ hx1).trans (show _ = some (Value.slice A1 n1 c1) from rfl)
  have z1 : w.heap.size < w1.heap.size := by omega
  clear hw0 hw1 hw2 hB0 hb1
  go_wp2_with fail
  have hB1' : Below w.heap.size w (w1.alloc (.cells #[.slice B0 m0 k0, .slice B1 m1 k1] 62)) := hB1.alloc (by omega) _
  have hi1 := heap_alloc_new w1 (.cells #[.slice B0 m0 k0, .slice B1 m1 k1] 62)
  obtain ⟨hxa, hxb⟩ := HX.out _ hB1'
  refine (refSlots_c hxa hxb).mono ?_
  clear hxa hxb
  rintro e w2 ⟨rfl, hb2⟩
  have s2 := hb2.size
  rw [World.size_alloc] at s2
  have hlow2 : ∀ b, b < w1.heap.size → w2.heap[b]? = w1.heap[b]? := fun b hb => (hb2.block b (by simp; omega)).trans (Below.heap_alloc _ _ _ hb)
  have hx2 := (hlow2 w.heap.size (by omega)).trans hx1
  have ha2 := (hlow2 (w.heap.size + 1) (by omega)).trans ha1
  have hr2 := (hlow2 (w.heap.size + 2) (by omega)).trans hr1
  have hi2 := (hb2.block w1.heap.size (by simp)).trans hi1
  have hB2 := via hB1' hb2 (by simp <;> omega)
  have hB3 : Below w.heap.size w ((w2.alloc (.cells #[.slice none 0 0, .slice none 0 0] 62)).alloc (.cells #[.slice none 0 0, .slice none 0 0] 62)) := (hB2.alloc (by omega) _).alloc (by simp; omega) _
  have hlow3 : ∀ b, b < w2.heap.size → ((w2.alloc (.cells #[.slice none 0 0, .slice none 0 0] 62)).alloc (.cells #[.slice none 0 0, .slice none 0 0] 62)).heap[b]? = w2.heap[b]? := fun b hb => by rw [Below.heap_alloc _ _ _ (by simp; omega), Below.heap_alloc _ _ _ hb]
  have hSW : SW w S x va A0 n0 c0 A1 n1 c1 B0 m0 k0 B1 m1 k1 w1.heap.size w2.heap.size (.slice none 0 0) (.slice none 0 0) (.slice none 0 0) (.slice none 0 0) ((w2.alloc (.cells #[.slice none 0 0, .slice none 0 0] 62)).alloc (.cells #[.slice none 0 0, .slice none 0 0] 62)) := by
    have hf : ∀ b, b < w1.heap.size → ((w2.alloc (.cells #[.slice none 0 0, .slice none 0 0] 62)).alloc (.cells #[.slice none 0 0, .slice none 0 0] 62)).heap[b]? = w1.heap[b]? := fun b hb => (hlow3 b (by omega)).trans (hlow2 b hb)
    have hsz : w1.heap.size ≤ ((w2.alloc (.cells #[.slice none 0 0, .slice none 0 0] 62)).alloc (.cells #[.slice none 0 0, .slice none 0 0] 62)).heap.size := by simp; omega
    refine ⟨(HX.out _ hB3).1, (HX.out _ hB3).2, (hs0.lt_block.frame (fun b hb _ => hf b hb.2) hsz).mono (fun b hb _ => ⟨by have := hb.1; omega, hb.2⟩), (hs1.lt_block.frame (fun b hb _ => hf b hb.2) hsz).mono (fun b hb _ => ⟨by have := hb.1; omega, hb.2⟩),
      (hlow3 _ (by omega)).trans hx2, (hlow3 _ (by omega)).trans ha2, (hlow3 _ (by omega)).trans hr2, (hlow3 _ (by omega)).trans hi2, ?_, ?_, hB3, by omega, by omega, by simp⟩
    · rw [Below.heap_alloc _ _ _ (by simp)]; exact heap_alloc_new _ _
    · have := heap_alloc_new (w2.alloc (.cells #[.slice none 0 0, .slice none 0 0] 62)) (.cells #[.slice none 0 0, .slice none 0 0] 62)
      rw [World.size_alloc] at this; exact this
  have HSW := Lib.hid hSW; clear hSW
  clear p0 p1
  have p0 := (cell_of_row w2 w.heap.size 0 _ _ _ hx2).trans (show _ = some (Value.slice A0 n0 c0) from rfl)
  have p2 := (cell_of_row w2 (w.heap.size + 1) 1 _ _ _ ha2).trans (show _ = some (Value.int .i64 a.d) by rw [← HVA.out]; rfl)
  have z2 : w.heap.size < w2.heap.size := by omega
  have z3 : w.heap.size + 1 < w2.heap.size := by omega
  have hz3 : ((w2.alloc (.cells #[.slice none 0 0, .slice none 0 0] 62)).alloc (.cells #[.slice none 0 0, .slice none 0 0] 62)).heap.size = w2.heap.size + 2 := by simp
  have hn0 : n0 ≤ 1000000 := by have := HL0.out; have := HSM.out.1; omega
  clear hlow2 hlow3 hx1 hx2 ha1 ha2 hr1 hr2 hi1 hi2 hB1 hB1' hB2 hB3 hb2 hs0 hs1
  generalize hb6 : w1.heap.size = b6 at *
  clear hb6
  go_wp2_with fail
  refine Num_c.mono ?_
  generalize ((w2.alloc (.cells #[.slice none 0 0, .slice none 0 0] 62)).alloc (.cells #[.slice none 0 0, .slice none 0 0] 62)) = w3 at *
  generalize w2.heap.size = b9 at *
  clear p0 p2
  rintro e w4 ⟨rfl, hb4⟩
  have HS4 := Lib.hid (HSW.out.all hb4); clear HSW
  have s4 := hb4.size
  clear hb4
  have p2 := (cell_of_row w4 (w.heap.size + 1) 0 _ _ _ HS4.out.ba).trans (show _ = some (Value.int .i64 a.act) by rw [← HVA.out]; rfl)
  have hwi := Within_c (w := w4) (i := a.act) (n := 7) ⟨i1, i2⟩ (by omega) (by omega)
  go_wp2_with fail
  refine hwi.mono ?_
  clear hwi p2
  rintro e w5 ⟨m, rfl, ⟨hm0, hm7⟩, hb5⟩
  have HS5 := Lib.hid (HS4.out.all hb5)
  have s5 := hb5.size
  clear hb5 HS4
  clear z1 s1 s2 s4 s5 hz0 hz3 z2 z3
  generalize hr : slotsOkB x = r at *
  have HR := Lib.hid hr; clear hr
  generalize hdk : (decide (0 ≤ a.d) && decide (a.d ≤ (n0 : Int) - 1)) = dk at *
  have HDK := Lib.hid hdk; clear hdk
  go_upto_block 0 with (fail)
  go_cut [8, 11, 12, 13] from 15 (fun s8 s11 s12 s13 V => CutS w S x va A0 n0 c0 A1 n1 c1 B0 m0 k0 B1 m1 k1 b6 b9 s8 s11 s12 s13 V)
  case first =>
    have hmm : (m = 0 ∨ m = 1 ∨ m = 2) ∨ (m = 3 ∨ m = 4) ∨ m = 5 ∨ m = 6 := by omega
    rcases hmm with h | h | h | h
    · have pL := (cell_of_row w5 (w.heap.size + 1) 6 _ _ _ HS5.out.ba).trans (show _ = some (Value.slice A6 n6 c6) by rw [← HVA.out]; rfl)
      have hcn := CopyNumbers_c (HN.out w5 HS5.out.below) (by omega)
      unfold RetOwn at hcn
      rw [HL6.out] at hcn
      have HCN := Lib.hid hcn; clear hcn
      rcases h with rfl | rfl | rfl <;>
      · go_wp2_with fail
        refine (Hid.out HCN).mono ?_
        clear HCN pL
        rintro e w6 ⟨A7, c7, rfl, hown, hb6⟩
        have HS6 := Lib.hid (HS5.out.all hb6)
        have hB6 := HS6.out.below
        have HNot : Hid (Sl true 3 intE w6 (fun b => w5.heap.size ≤ b) A7 n6 c7 a.l) := Lib.hid ((hown.sl (tg := true)).mono (fun b hb _ => hb.elim id id))
        clear hown hb6
        have hti := Take_c (w := w6) (n := a.n) (by exact ⟨by omega, by omega⟩) HS6.out.i0 HS6.out.i1 HNot.out
        generalize hR : takeR x a.n a.l = R at *
        have HTR := Lib.hid hR; clear hR
        obtain ⟨g0, g1⟩ := HS6.out.ci
        have pN := (cell_of_row w6 (w.heap.size + 1) 2 _ _ _ HS6.out.ba).trans (show _ = some (Value.int .i64 a.n) by rw [← HVA.out]; rfl)
        go_wp2_with fail
        refine hti.mono ?_
        clear hti g0 g1 pN
        rintro e w7 ⟨E, ne, ce, C0, p0, q0, C1, p1, q1, rfl, hl, hy0, hy1, hb7⟩
        have s7 := hb7.size
        have s6 := HS6.out.hi
        have s69 := HS6.out.le
        have s6l := HS6.out.lo
        have HS7 := Lib.hid (HS6.out.all hb7)
        have hk : Keeps (fun b => w6.heap.size ≤ b) w7 ((w7.setCell ⟨b9, 0, none⟩ (.slice C0 p0 q0)).setCell ⟨b9, 1, none⟩ (.slice C1 p1 q1)) := (by repeat' (first | (with_reducible exact Keeps.refl _ _) | (with_reducible refine Keeps.alloc ?_ _) | (with_reducible refine Keeps.drew ?_) | (with_reducible refine Keeps.drewN ?_ _) | (with_reducible refine Keeps.setCell ?_ ?_ _) | (refine Keeps.call ?_ (by with_reducible assumption)) | (with_reducible refine Keeps.ext ?_ _) | (simp; done) | (simp; omega) | omega))
        have HS8 := Lib.hid (HS7.out.sy (p := .slice C0 p0 q0) (q := .slice C1 p1 q1))
        have HY0 := Lib.hid ((hy0.keep hk).lt_block); clear hy0
        have HY1 := Lib.hid ((hy1.keep hk).lt_block); clear hy1
        have HLL := Lib.hid (hl.keep hk); clear hl
        have hNot8 := ((HNot.out.all hb7).lt_block).frame (w' := ((w7.setCell ⟨b9, 0, none⟩ (.slice C0 p0 q0)).setCell ⟨b9, 1, none⟩ (.slice C1 p1 q1))) (fun b hb _ => by have : w5.heap.size ≤ b := hb.1; have := HS5.out.hi; rw [Below.heap_setCell _ _ _ _ (by simp; omega), Below.heap_setCell _ _ _ _ (by simp; omega)]) (by simp)
        have HNot8 := Lib.hid hNot8; clear hNot8
        obtain ⟨g0, g1, g2, g3⟩ := HS7.out.cy
        clear hb7 hk
        go_upto_region 19 with (fail)
        clear g0 g1 g2 g3
        generalize ((w7.setCell ⟨b9, 0, none⟩ (.slice C0 p0 q0)).setCell ⟨b9, 1, none⟩ (.slice C1 p1 q1)) = w8 at *
        clear HS6 HS7 HNot
        clear s7
        have hTN := HNot8.out.mono (S' := fun b => b9 + 1 < b) (fun b hb _ => by have : w5.heap.size ≤ b := hb.1; have := HS5.out.hi; omega)
        have HTN := Lib.hid hTN; clear hTN HNot8
        have hS8 := HS8.out.hi
        have pN := (cell_of_row w8 (w.heap.size + 1) 2 _ _ _ HS8.out.ba).trans (show _ = some (Value.int .i64 a.n) by rw [← HVA.out]; rfl)
        have pL := (cell_of_row w8 (w.heap.size + 1) 6 _ _ _ HS8.out.ba).trans (show _ = some (Value.slice A6 n6 c6) by rw [← HVA.out]; rfl)
        have hbad : Hid (¬ (r = true ∧ 1 ≤ a.n ∧ a.n ≤ 12) → R = ([], ⟨[], []⟩, 1)) := Lib.hid (fun h => HTR.out.symm.trans (takeR_bad (by rw [HR.out]; exact h)))
        have heq := EqNumbers_c HTN.out (HN.out w8 HS8.out.below)
        rw [decide_eq_true (rfl : a.l = a.l)] at heq
        have HEQ := Lib.hid heq; clear heq
        cases r with
        | false =>
          obtain rfl : R = ([], ⟨[], []⟩, 1) := hbad.out (by simp)
          go_wp2_with fail
          refine HEQ.out.mono ?_
          rintro e w9 ⟨rfl, hb9⟩
          have HS9 := Lib.hid (HS8.out.all hb9)
          go_wp2_with fail
          go_meet
          case rel => exact ⟨1, ⟨[], []⟩, [], C0, p0, q0, C1, p1, q1, none, 0, 0, none, 0, 0, E, ne, ce, none, 0, 0, w8.heap.size, rfl, rfl, rfl, rfl, (fun h => by cases h), HS9.out, (HY0.out.all hb9).mono (fun b hb _ => ⟨by have : w6.heap.size ≤ b := hb.1; omega, hb.2⟩), (HY1.out.all hb9).mono (fun b hb _ => ⟨by have : w6.heap.size ≤ b := hb.1; omega, hb.2⟩), Sl.nil_ (by decide), Sl.nil_ (by decide), (HLL.out.all hb9).mono (fun b hb _ => by have : w6.heap.size ≤ b := hb; omega), Sl.nil_ (by decide), by omega⟩
        | true =>
          have hbt := Between_c (w := w8) (n := a.n) (l := 1) (m := 12)
          by_cases hnn : 1 ≤ a.n ∧ a.n ≤ 12
          · rw [decide_eq_true hnn] at hbt
            go_wp2_with fail
            refine hbt.mono ?_
            clear hbt
            rintro e w9 ⟨rfl, hb9⟩
            obtain ⟨n, hn⟩ := Int.eq_ofNat_of_zero_le (show 0 ≤ a.n by omega)
            have hxo := slotsOk_of HR.out
            have hRf : R = refTakeR x n a.l := by
              rw [← HTR.out]
              unfold takeR refTakeR
              rw [if_pos ⟨HR.out, hnn⟩, hn]; rfl
            have hsm : R.2.2 = 0 → SmallX R.2.1 := by
              rw [hRf]
              unfold refTakeR
              by_cases ht : takeErr x n a.l = 0
              · rw [if_pos ht]; exact fun _ => small_take hxo _ _
              · rw [if_neg ht]; exact fun h => absurd h ht
            have HSMR := Lib.hid hsm; clear hsm
            have HS9 := Lib.hid (HS8.out.all hb9)
            have hY0 := Lib.hid (HY0.out.all hb9)
            have hY1 := Lib.hid (HY1.out.all hb9)
            have hLL := Lib.hid (HLL.out.all hb9)
            have hTN := Lib.hid (HTN.out.all hb9)
            have s9 := hb9.size
            clear hb9 pN pL
            have hrt := refTake_c (w := w9) (n := n) hxo (by omega) (by omega) (by omega) HS9.out.x0 HS9.out.x1 (HN.out w9 HS9.out.below)
            rw [← hRf] at hrt
            have pN := (cell_of_row w9 (w.heap.size + 1) 2 _ _ _ HS9.out.ba).trans (show _ = some (Value.int .i64 (n : Int)) by rw [← HVA.out, ← hn]; rfl)
            have pL := (cell_of_row w9 (w.heap.size + 1) 6 _ _ _ HS9.out.ba).trans (show _ = some (Value.slice A6 n6 c6) by rw [← HVA.out]; rfl)
            obtain ⟨g0, g1⟩ := HS9.out.cx
            clear hRf hn hxo hnn hbad HEQ
            go_wp2_with fail
            refine hrt.mono ?_
            clear hrt g0 g1 pN pL
            rintro e w10 ⟨F, nf, cf, D0, r0, t0, D1, r1, t1, rfl, hf, hd0, hd1, hb10⟩
            have HS10 := Lib.hid (HS9.out.all hb10)
            have s10 := hb10.size
            have hk : Keeps (fun b => b ≠ b9 + 1) w10 ((w10.setCell ⟨b9 + 1, 0, none⟩ (.slice D0 r0 t0)).setCell ⟨b9 + 1, 1, none⟩ (.slice D1 r1 t1)) := (by repeat' (first | (with_reducible exact Keeps.refl _ _) | (with_reducible refine Keeps.alloc ?_ _) | (with_reducible refine Keeps.drew ?_) | (with_reducible refine Keeps.drewN ?_ _) | (with_reducible refine Keeps.setCell ?_ ?_ _) | (refine Keeps.call ?_ (by with_reducible assumption)) | (with_reducible refine Keeps.ext ?_ _) | (simp; done) | (simp; omega) | omega))
            have HS11 := Lib.hid (HS10.out.sw (p := .slice D0 r0 t0) (q := .slice D1 r1 t1))
            have HD0 := Lib.hid ((hd0.mono (S' := fun b => b ≠ b9 + 1 ∧ w9.heap.size ≤ b) (fun b hb _ => ⟨by have : w9.heap.size ≤ b := hb; omega, hb⟩)).frame (w' := ((w10.setCell ⟨b9 + 1, 0, none⟩ (.slice D0 r0 t0)).setCell ⟨b9 + 1, 1, none⟩ (.slice D1 r1 t1))) (fun b hb hlt => hk.1 b hb.1 hlt) hk.2)
            have HD1 := Lib.hid ((hd1.mono (S' := fun b => b ≠ b9 + 1 ∧ w9.heap.size ≤ b) (fun b hb _ => ⟨by have : w9.heap.size ≤ b := hb; omega, hb⟩)).frame (w' := ((w10.setCell ⟨b9 + 1, 0, none⟩ (.slice D0 r0 t0)).setCell ⟨b9 + 1, 1, none⟩ (.slice D1 r1 t1))) (fun b hb hlt => hk.1 b hb.1 hlt) hk.2)
            have HF := Lib.hid ((hf.mono (S' := fun b => b ≠ b9 + 1 ∧ w9.heap.size ≤ b) (fun b hb _ => ⟨by have : w9.heap.size ≤ b := hb; omega, hb⟩)).frame (w' := ((w10.setCell ⟨b9 + 1, 0, none⟩ (.slice D0 r0 t0)).setCell ⟨b9 + 1, 1, none⟩ (.slice D1 r1 t1))) (fun b hb hlt => hk.1 b hb.1 hlt) hk.2)
            have hy0 := Lib.hid (((hY0.out.all hb10).mono (S' := fun b => b ≠ b9 + 1 ∧ (b9 + 1 < b ∧ b < w8.heap.size)) (fun b hb _ => by have : w6.heap.size ≤ b := hb.1; have := hb.2; exact ⟨by omega, by omega, by omega⟩)).frame (w' := ((w10.setCell ⟨b9 + 1, 0, none⟩ (.slice D0 r0 t0)).setCell ⟨b9 + 1, 1, none⟩ (.slice D1 r1 t1))) (fun b hb hlt => hk.1 b hb.1 hlt) hk.2)
            have hy1 := Lib.hid (((hY1.out.all hb10).mono (S' := fun b => b ≠ b9 + 1 ∧ (b9 + 1 < b ∧ b < w8.heap.size)) (fun b hb _ => by have : w6.heap.size ≤ b := hb.1; have := hb.2; exact ⟨by omega, by omega, by omega⟩)).frame (w' := ((w10.setCell ⟨b9 + 1, 0, none⟩ (.slice D0 r0 t0)).setCell ⟨b9 + 1, 1, none⟩ (.slice D1 r1 t1))) (fun b hb hlt => hk.1 b hb.1 hlt) hk.2)
            have hl1 := Lib.hid (((hLL.out.all hb10).mono (S' := fun b => b ≠ b9 + 1 ∧ b9 + 1 < b) (fun b hb _ => by have : w6.heap.size ≤ b := hb; exact ⟨by omega, by omega⟩)).frame (w' := ((w10.setCell ⟨b9 + 1, 0, none⟩ (.slice D0 r0 t0)).setCell ⟨b9 + 1, 1, none⟩ (.slice D1 r1 t1))) (fun b hb hlt => hk.1 b hb.1 hlt) hk.2)
            have hnt := ((hTN.out.all hb10).mono (S' := fun b => b ≠ b9 + 1) (fun b hb _ => by have : b9 + 1 < b := hb; omega)).keep hk
            obtain ⟨g0, g1, g2, g3⟩ := HS10.out.cw
            clear hf hd0 hd1 hb10 hk hY0 hY1 hLL hTN HTN HS9
            go_upto_region 21 with (fail)
            clear g0 g1 g2 g3 HS10
            generalize ((w10.setCell ⟨b9 + 1, 0, none⟩ (.slice D0 r0 t0)).setCell ⟨b9 + 1, 1, none⟩ (.slice D1 r1 t1)) = w11 at *
            have pL := (cell_of_row w11 (w.heap.size + 1) 6 _ _ _ HS11.out.ba).trans (show _ = some (Value.slice A6 n6 c6) by rw [← HVA.out]; rfl)
            have heq := EqNumbers_c hnt (HN.out w11 HS11.out.below)
            rw [decide_eq_true (rfl : a.l = a.l)] at heq
            have HEQ2 := Lib.hid heq; clear heq hnt
            go_wp2_with fail
            refine HEQ2.out.mono ?_
            rintro e w12 ⟨rfl, hb12⟩
            have HS12 := Lib.hid (HS11.out.all hb12)
            have HBB := Lib.hid hb12; clear hb12
            go_wp2_with fail
            go_meet
            case rel => exact ⟨R.2.2, R.2.1, R.1, C0, p0, q0, C1, p1, q1, D0, r0, t0, D1, r1, t1, E, ne, ce, F, nf, cf, w8.heap.size, rfl, rfl, rfl, rfl, HSMR.out, HS12.out, (hy0.out.all HBB.out).mono (fun b hb _ => hb.2), (hy1.out.all HBB.out).mono (fun b hb _ => hb.2), (HD0.out.all HBB.out).mono (fun b hb _ => by have := hb.2; omega), (HD1.out.all HBB.out).mono (fun b hb _ => by have := hb.2; omega), (hl1.out.all HBB.out).mono (fun b hb _ => hb.2), (HF.out.all HBB.out).mono (fun b hb _ => by have := hb.2; omega), by omega⟩
          · obtain rfl : R = ([], ⟨[], []⟩, 1) := hbad.out (fun h => hnn h.2)
            rw [decide_eq_false hnn] at hbt
            have HNN := Lib.hid hnn; clear hnn
            go_wp2_with fail
            refine hbt.mono ?_
            clear hbt
            rintro e w9 ⟨rfl, hb9⟩
            have HS9 := Lib.hid (HS8.out.all hb9)
            have pL := (cell_of_row w9 (w.heap.size + 1) 6 _ _ _ HS9.out.ba).trans (show _ = some (Value.slice A6 n6 c6) by rw [← HVA.out]; rfl)
            have heq := EqNumbers_c (HTN.out.all hb9) (HN.out w9 HS9.out.below)
            rw [decide_eq_true (rfl : a.l = a.l)] at heq
            have HEQ2 := Lib.hid heq; clear heq
            go_wp2_with fail
            refine HEQ2.out.mono ?_
            rintro e w10 ⟨rfl, hb10⟩
            have HS10 := Lib.hid (HS9.out.all hb10)
            have hbb := Lib.hid (hb9.trans (hb10.mono hb9.size)); clear hb9 hb10
            go_wp2_with fail
            go_meet
            case rel => exact ⟨1, ⟨[], []⟩, [], C0, p0, q0, C1, p1, q1, none, 0, 0, none, 0, 0, E, ne, ce, none, 0, 0, w8.heap.size, rfl, rfl, rfl, rfl, (fun h => by cases h), HS10.out, (HY0.out.all hbb.out).mono (fun b hb _ => ⟨by have : w6.heap.size ≤ b := hb.1; omega, hb.2⟩), (HY1.out.all hbb.out).mono (fun b hb _ => ⟨by have : w6.heap.size ≤ b := hb.1; omega, hb.2⟩), Sl.nil_ (by decide), Sl.nil_ (by decide), (HLL.out.all hbb.out).mono (fun b hb _ => by have : w6.heap.size ≤ b := hb; omega), Sl.nil_ (by decide), by omega⟩
    · have pS := (cell_of_row w5 (w.heap.size + 1) 4 _ _ _ HS5.out.ba).trans (show _ = some (Value.int .i64 a.disk) by rw [← HVA.out]; rfl)
      have pA := (cell_of_row w5 (w.heap.size + 1) 5 _ _ _ HS5.out.ba).trans (show _ = some (Value.int .i64 a.pos) by rw [← HVA.out]; rfl)
      have hgi := Give_c (w := w5) (d := a.disk) (a := a.pos) ⟨by omega, by omega⟩ ⟨by omega, by omega⟩ HS5.out.i0 HS5.out.i1
      generalize hR : giveR x a.disk a.pos = R at *
      have HTR := Lib.hid hR; clear hR
      have HGI := Lib.hid hgi; clear hgi
      obtain ⟨g0, g1⟩ := HS5.out.ci
      rcases h with rfl | rfl <;>
      · go_wp2_with fail
        refine (Hid.out HGI).mono ?_
        clear HGI g0 g1 pS pA
        rintro e w7 ⟨C0, p0, q0, C1, p1, q1, rfl, hy0, hy1, hb7⟩
        have s7 := hb7.size
        have s6 := HS5.out.hi
        have s69 := HS5.out.le
        have s6l := HS5.out.lo
        have HS7 := Lib.hid (HS5.out.all hb7)
        have hk : Keeps (fun b => w5.heap.size ≤ b) w7 ((w7.setCell ⟨b9, 0, none⟩ (.slice C0 p0 q0)).setCell ⟨b9, 1, none⟩ (.slice C1 p1 q1)) := (by repeat' (first | (with_reducible exact Keeps.refl _ _) | (with_reducible refine Keeps.alloc ?_ _) | (with_reducible refine Keeps.drew ?_) | (with_reducible refine Keeps.drewN ?_ _) | (with_reducible refine Keeps.setCell ?_ ?_ _) | (refine Keeps.call ?_ (by with_reducible assumption)) | (with_reducible refine Keeps.ext ?_ _) | (simp; done) | (simp; omega) | omega))
        have HS8 := Lib.hid (HS7.out.sy (p := .slice C0 p0 q0) (q := .slice C1 p1 q1))
        have HY0 := Lib.hid ((hy0.keep hk).lt_block); clear hy0
        have HY1 := Lib.hid ((hy1.keep hk).lt_block); clear hy1
        obtain ⟨g0, g1, g2, g3⟩ := HS7.out.cy
        clear hb7 hk
        go_upto_region 26 with (fail)
        clear g0 g1 g2 g3
        generalize ((w7.setCell ⟨b9, 0, none⟩ (.slice C0 p0 q0)).setCell ⟨b9, 1, none⟩ (.slice C1 p1 q1)) = w8 at *
        clear HS7 s7
        have hS8 := HS8.out.hi
        have hbad : Hid (¬ (r = true ∧ 0 ≤ a.disk ∧ a.disk < (n0 : Int) ∧ 0 ≤ a.pos ∧ a.pos < 64) → R = (⟨[], []⟩, 1)) := Lib.hid (fun h => HTR.out.symm.trans (giveR_bad (by rw [HR.out, HL0.out]; exact h)))
        have hmet : Hid (∀ V, Below w8.heap.size w8 V → R = (⟨[], []⟩, 1) → CutS w S x va A0 n0 c0 A1 n1 c1 B0 m0 k0 B1 m1 k1 b6 b9 (.int .i64 1) (.slice none 0 0) (.slice none 0 0) (.int .i64 1) V) := Lib.hid (fun V hb hR => by
          subst hR
          exact ⟨1, ⟨[], []⟩, [], C0, p0, q0, C1, p1, q1, none, 0, 0, none, 0, 0, none, 0, 0, none, 0, 0, w8.heap.size, rfl, rfl, rfl, rfl, (fun h => by cases h), HS8.out.all hb, (HY0.out.all hb).mono (fun b hb _ => ⟨by have : w5.heap.size ≤ b := hb.1; omega, hb.2⟩), (HY1.out.all hb).mono (fun b hb _ => ⟨by have : w5.heap.size ≤ b := hb.1; omega, hb.2⟩), Sl.nil_ (by decide), Sl.nil_ (by decide), Sl.nil_ (by decide), Sl.nil_ (by decide), by omega⟩)
        have pS := (cell_of_row w8 (w.heap.size + 1) 4 _ _ _ HS8.out.ba).trans (show _ = some (Value.int .i64 a.disk) by rw [← HVA.out]; rfl)
        obtain ⟨g0, g1⟩ := HS8.out.cx
        cases r with
        | false =>
          obtain rfl : R = (⟨[], []⟩, 1) := hbad.out (by simp)
          go_wp2_with fail
          go_meet
          case rel => exact hmet.out w8 (Below.refl _ _) (by trivial)
        | true =>
          have hbt := Num_c (w := w8) (n := a.disk) (m := (n0 : Int) - 1)
          by_cases hnn : 0 ≤ a.disk ∧ a.disk ≤ (n0 : Int) - 1
          · rw [decide_eq_true hnn] at hbt
            obtain ⟨d, hd⟩ := Int.eq_ofNat_of_zero_le hnn.1
            have hdn : d < n0 := by omega
            have HND := Lib.hid hd; clear hd
            clear hnn
            go_wp2_with fail
            refine hbt.mono ?_
            clear hbt g0 g1 pS
            rintro e w9 ⟨rfl, hb9⟩
            have HS9 := Lib.hid (HS8.out.all hb9)
            have pA := (cell_of_row w9 (w.heap.size + 1) 5 _ _ _ HS9.out.ba).trans (show _ = some (Value.int .i64 a.pos) by rw [← HVA.out]; rfl)
            have hbt := Num_c (w := w9) (n := a.pos) (m := 63)
            have HB9 := Lib.hid hb9; clear hb9
            by_cases hpp : 0 ≤ a.pos ∧ a.pos ≤ 63
            · rw [decide_eq_true hpp] at hbt
              have HPP := Lib.hid hpp; clear hpp
              go_wp2_with fail
              refine hbt.mono ?_
              clear hbt pA
              rintro e w10 ⟨rfl, hb10⟩
              have HS10 := Lib.hid (HS9.out.all hb10)
              have hbb := HB9.out.trans (hb10.mono HB9.out.size)
              have hY0 := Lib.hid (HY0.out.all hbb)
              have hY1 := Lib.hid (HY1.out.all hbb)
              have s10 := hbb.size
              have hxo := slotsOk_of HR.out
              have hRf : R = refGiveR x d a.pos := by
                rw [← HTR.out]
                unfold giveR refGiveR
                have := HPP.out
                have hd := HND.out
                rw [if_pos ⟨HR.out, by omega, by rw [HL0.out]; omega, by omega, by omega⟩, hd]; rfl
              have hsm : R.2 = 0 → SmallX R.1 := by
                rw [hRf]
                unfold refGiveR
                by_cases ht : (x.free.getD d []).contains a.pos = true
                · rw [if_pos ht]; intro h; cases h
                · rw [if_neg ht]; exact fun _ => small_give hxo _ _
              have HSMR := Lib.hid hsm; clear hsm
              have hrt := refGive_c (w := w10) (d := d) (a := a.pos) hxo (by rw [HL0.out]; exact hdn) (by have := HPP.out; exact ⟨by omega, by omega⟩) HS10.out.x0 HS10.out.x1
              rw [← hRf] at hrt
              have pS := (cell_of_row w10 (w.heap.size + 1) 4 _ _ _ HS10.out.ba).trans (show _ = some (Value.int .i64 (d : Int)) by rw [← HVA.out, ← HND.out]; rfl)
              have pA := (cell_of_row w10 (w.heap.size + 1) 5 _ _ _ HS10.out.ba).trans (show _ = some (Value.int .i64 a.pos) by rw [← HVA.out]; rfl)
              obtain ⟨g0, g1⟩ := HS10.out.cx
              clear hRf hxo hb10 hbb HB9 hmet hbad
              go_wp2_with fail
              refine hrt.mono ?_
              clear hrt g0 g1 pS pA
              rintro e w11 ⟨D0, r0, t0, D1, r1, t1, rfl, hd0, hd1, hb11⟩
              have HS11 := Lib.hid (HS10.out.all hb11)
              have s11 := hb11.size
              have hk : Keeps (fun b => b ≠ b9 + 1) w11 ((w11.setCell ⟨b9 + 1, 0, none⟩ (.slice D0 r0 t0)).setCell ⟨b9 + 1, 1, none⟩ (.slice D1 r1 t1)) := (by repeat' (first | (with_reducible exact Keeps.refl _ _) | (with_reducible refine Keeps.alloc ?_ _) | (with_reducible refine Keeps.drew ?_) | (with_reducible refine Keeps.drewN ?_ _) | (with_reducible refine Keeps.setCell ?_ ?_ _) | (refine Keeps.call ?_ (by with_reducible assumption)) | (with_reducible refine Keeps.ext ?_ _) | (simp; done) | (simp; omega) | omega))
              have HS12 := Lib.hid (HS11.out.sw (p := .slice D0 r0 t0) (q := .slice D1 r1 t1))
              have HD0 := Lib.hid ((hd0.mono (S' := fun b => b ≠ b9 + 1 ∧ w10.heap.size ≤ b) (fun b hb _ => ⟨by have : w10.heap.size ≤ b := hb; omega, hb⟩)).frame (w' := ((w11.setCell ⟨b9 + 1, 0, none⟩ (.slice D0 r0 t0)).setCell ⟨b9 + 1, 1, none⟩ (.slice D1 r1 t1))) (fun b hb hlt => hk.1 b hb.1 hlt) hk.2)
              have HD1 := Lib.hid ((hd1.mono (S' := fun b => b ≠ b9 + 1 ∧ w10.heap.size ≤ b) (fun b hb _ => ⟨by have : w10.heap.size ≤ b := hb; omega, hb⟩)).frame (w' := ((w11.setCell ⟨b9 + 1, 0, none⟩ (.slice D0 r0 t0)).setCell ⟨b9 + 1, 1, none⟩ (.slice D1 r1 t1))) (fun b hb hlt => hk.1 b hb.1 hlt) hk.2)
              have hy0 := Lib.hid (((hY0.out.all hb11).mono (S' := fun b => b ≠ b9 + 1 ∧ (b9 + 1 < b ∧ b < w8.heap.size)) (fun b hb _ => by have : w5.heap.size ≤ b := hb.1; have := hb.2; exact ⟨by omega, by omega, by omega⟩)).frame (w' := ((w11.setCell ⟨b9 + 1, 0, none⟩ (.slice D0 r0 t0)).setCell ⟨b9 + 1, 1, none⟩ (.slice D1 r1 t1))) (fun b hb hlt => hk.1 b hb.1 hlt) hk.2)
              have hy1 := Lib.hid (((hY1.out.all hb11).mono (S' := fun b => b ≠ b9 + 1 ∧ (b9 + 1 < b ∧ b < w8.heap.size)) (fun b hb _ => by have : w5.heap.size ≤ b := hb.1; have := hb.2; exact ⟨by omega, by omega, by omega⟩)).frame (w' := ((w11.setCell ⟨b9 + 1, 0, none⟩ (.slice D0 r0 t0)).setCell ⟨b9 + 1, 1, none⟩ (.slice D1 r1 t1))) (fun b hb hlt => hk.1 b hb.1 hlt) hk.2)
              obtain ⟨g0, g1, g2, g3⟩ := HS11.out.cw
              clear hd0 hd1 hb11 hk hY0 hY1 HS9 HS10
              go_wp2_with fail
              go_meet
              case rel => exact ⟨R.2, R.1, [], C0, p0, q0, C1, p1, q1, D0, r0, t0, D1, r1, t1, none, 0, 0, none, 0, 0, w8.heap.size, rfl, rfl, rfl, rfl, HSMR.out, HS12.out, hy0.out.mono (fun b hb _ => hb.2), hy1.out.mono (fun b hb _ => hb.2), HD0.out.mono (fun b hb _ => by have := hb.2; omega), HD1.out.mono (fun b hb _ => by have := hb.2; omega), Sl.nil_ (by decide), Sl.nil_ (by decide), by omega⟩
            · obtain rfl : R = (⟨[], []⟩, 1) := hbad.out (fun h => hpp ⟨h.2.2.2.1, by have := h.2.2.2.2; omega⟩)
              rw [decide_eq_false hpp] at hbt
              have HPP := Lib.hid hpp; clear hpp
              go_wp2_with fail
              refine hbt.mono ?_
              clear hbt
              rintro e w10 ⟨rfl, hb10⟩
              have HBB := Lib.hid (HB9.out.trans (hb10.mono HB9.out.size)); clear hb10
              go_wp2_with fail
              go_meet
              case rel => exact hmet.out _ HBB.out (by trivial)
          · obtain rfl : R = (⟨[], []⟩, 1) := hbad.out (fun h => hnn ⟨h.2.1, by have := h.2.2.1; omega⟩)
            rw [decide_eq_false hnn] at hbt
            have HNN := Lib.hid hnn; clear hnn
            go_wp2_with fail
            refine hbt.mono ?_
            clear hbt
            rintro e w9 ⟨rfl, hb9⟩
            have HB9 := Lib.hid hb9; clear hb9
            go_wp2_with fail
            go_meet
            case rel => exact hmet.out _ HB9.out (by trivial)
    · obtain rfl := h
      have pD := (cell_of_row w5 (w.heap.size + 1) 1 _ _ _ HS5.out.ba).trans (show _ = some (Value.int .i64 a.d) by rw [← HVA.out]; rfl)
      have pN := (cell_of_row w5 (w.heap.size + 1) 2 _ _ _ HS5.out.ba).trans (show _ = some (Value.int .i64 a.n) by rw [← HVA.out]; rfl)
      have pI := (cell_of_row w5 (w.heap.size + 1) 3 _ _ _ HS5.out.ba).trans (show _ = some (Value.bool a.is) by rw [← HVA.out]; rfl)
      have hgi := Live_c (w := w5) (d := a.d) (n := a.n) (is := a.is) ⟨by omega, by omega⟩ ⟨by omega, by omega⟩ HS5.out.i0 HS5.out.i1
      generalize hR : liveR x a.d a.is a.n = R at *
      have HTR := Lib.hid hR; clear hR
      have HGI := Lib.hid hgi; clear hgi
      obtain ⟨g0, g1⟩ := HS5.out.ci
      go_wp2_with fail
      refine (Hid.out HGI).mono ?_
      clear HGI g0 g1 pD pN pI
      rintro e w7 ⟨C0, p0, q0, C1, p1, q1, rfl, hy0, hy1, hb7⟩
      have s7 := hb7.size
      have s6 := HS5.out.hi
      have s69 := HS5.out.le
      have s6l := HS5.out.lo
      have HS7 := Lib.hid (HS5.out.all hb7)
      have hk : Keeps (fun b => w5.heap.size ≤ b) w7 ((w7.setCell ⟨b9, 0, none⟩ (.slice C0 p0 q0)).setCell ⟨b9, 1, none⟩ (.slice C1 p1 q1)) := (by repeat' (first | (with_reducible exact Keeps.refl _ _) | (with_reducible refine Keeps.alloc ?_ _) | (with_reducible refine Keeps.drew ?_) | (with_reducible refine Keeps.drewN ?_ _) | (with_reducible refine Keeps.setCell ?_ ?_ _) | (refine Keeps.call ?_ (by with_reducible assumption)) | (with_reducible refine Keeps.ext ?_ _) | (simp; done) | (simp; omega) | omega))
      have HS8 := Lib.hid (HS7.out.sy (p := .slice C0 p0 q0) (q := .slice C1 p1 q1))
      have HY0 := Lib.hid ((hy0.keep hk).lt_block); clear hy0
      have HY1 := Lib.hid ((hy1.keep hk).lt_block); clear hy1
      obtain ⟨g0, g1, g2, g3⟩ := HS7.out.cy
      clear hb7 hk
      go_upto_region 30 with (fail)
      clear g0 g1 g2 g3
      generalize ((w7.setCell ⟨b9, 0, none⟩ (.slice C0 p0 q0)).setCell ⟨b9, 1, none⟩ (.slice C1 p1 q1)) = w8 at *
      clear HS7 s7
      have hS8 := HS8.out.hi
      have hbad : Hid (¬ (r = true ∧ 0 ≤ a.d ∧ a.d < (n0 : Int) ∧ 0 ≤ a.n ∧ a.n ≤ 64) → R = (⟨[], []⟩, 1)) := Lib.hid (fun h => HTR.out.symm.trans (liveR_bad (by rw [HR.out, HL0.out]; exact h)))
      have hmet : Hid (∀ V, Below w8.heap.size w8 V → R = (⟨[], []⟩, 1) → CutS w S x va A0 n0 c0 A1 n1 c1 B0 m0 k0 B1 m1 k1 b6 b9 (.int .i64 1) (.slice none 0 0) (.slice none 0 0) (.int .i64 1) V) := Lib.hid (fun V hb hR => by
        subst hR
        exact ⟨1, ⟨[], []⟩, [], C0, p0, q0, C1, p1, q1, none, 0, 0, none, 0, 0, none, 0, 0, none, 0, 0, w8.heap.size, rfl, rfl, rfl, rfl, (fun h => by cases h), HS8.out.all hb, (HY0.out.all hb).mono (fun b hb _ => ⟨by have : w5.heap.size ≤ b := hb.1; omega, hb.2⟩), (HY1.out.all hb).mono (fun b hb _ => ⟨by have : w5.heap.size ≤ b := hb.1; omega, hb.2⟩), Sl.nil_ (by decide), Sl.nil_ (by decide), Sl.nil_ (by decide), Sl.nil_ (by decide), by omega⟩)
      have pN := (cell_of_row w8 (w.heap.size + 1) 2 _ _ _ HS8.out.ba).trans (show _ = some (Value.int .i64 a.n) by rw [← HVA.out]; rfl)
      cases r with
      | false =>
        obtain rfl : R = (⟨[], []⟩, 1) := hbad.out (by simp)
        go_wp2_with fail
        go_meet
        case rel => exact hmet.out w8 (Below.refl _ _) (by trivial)
      | true =>
        cases dk with
        | false =>
          obtain rfl : R = (⟨[], []⟩, 1) := hbad.out (fun h => by have h2 := HDK.out; simp at h2; have := h2 h.2.1; have := h.2.2.1; omega)
          go_wp2_with fail
          go_meet
          case rel => exact hmet.out w8 (Below.refl _ _) (by trivial)
        | true =>
          have hnn : 0 ≤ a.d ∧ a.d ≤ (n0 : Int) - 1 := by have h2 := HDK.out; simpa using h2
          obtain ⟨d, hd⟩ := Int.eq_ofNat_of_zero_le hnn.1
          have hdn : d < n0 := by omega
          have HND := Lib.hid hd; clear hd
          clear hnn
          have hbt := Num_c (w := w8) (n := a.n) (m := 64)
          by_cases hpp : 0 ≤ a.n ∧ a.n ≤ 64
          · rw [decide_eq_true hpp] at hbt
            obtain ⟨n, hn⟩ := Int.eq_ofNat_of_zero_le hpp.1
            have hn64 : n ≤ 64 := by omega
            have HPN := Lib.hid hn; clear hn
            clear hpp
            go_wp2_with fail
            refine hbt.mono ?_
            clear hbt pN
            rintro e w10 ⟨rfl, hbb⟩
            have HS10 := Lib.hid (HS8.out.all hbb)
            have hY0 := Lib.hid (HY0.out.all hbb)
            have hY1 := Lib.hid (HY1.out.all hbb)
            have s10 := hbb.size
            have hxo := slotsOk_of HR.out
            have hRf : R = (liveX x d a.is n, 0) := by
              rw [← HTR.out, liveR_ok ⟨HR.out, by have := HND.out; omega, by rw [HL0.out]; have := HND.out; omega, by have := HPN.out; omega, by have := HPN.out; omega⟩, HND.out, HPN.out]; rfl
            subst hRf
            have HSMR := Lib.hid (small_live hxo d a.is hn64)
            have hrt := refLive_c (w := w10) (d := d) (n := n) (is := a.is) hxo (by rw [HL0.out]; exact hdn) (by omega) HS10.out.x0 HS10.out.x1
            generalize liveX x d a.is n = y at *
            have pD := (cell_of_row w10 (w.heap.size + 1) 1 _ _ _ HS10.out.ba).trans (show _ = some (Value.int .i64 (d : Int)) by rw [← HVA.out, ← HND.out]; rfl)
            have pN := (cell_of_row w10 (w.heap.size + 1) 2 _ _ _ HS10.out.ba).trans (show _ = some (Value.int .i64 (n : Int)) by rw [← HVA.out, ← HPN.out]; rfl)
            have pI := (cell_of_row w10 (w.heap.size + 1) 3 _ _ _ HS10.out.ba).trans (show _ = some (Value.bool a.is) by rw [← HVA.out]; rfl)
            obtain ⟨g0, g1⟩ := HS10.out.cx
            clear hxo hbb hmet hbad HTR
            go_wp2_with fail
            refine hrt.mono ?_
            clear hrt g0 g1 pD pN pI
            rintro e w11 ⟨vs, rfl, ⟨D0, r0, t0, D1, r1, t1, rfl, _, hd0, hd1⟩, hb11⟩
            have HS11 := Lib.hid (HS10.out.all hb11)
            have s11 := hb11.size
            have hk : Keeps (fun b => b ≠ b9 + 1) w11 ((w11.setCell ⟨b9 + 1, 0, none⟩ (.slice D0 r0 t0)).setCell ⟨b9 + 1, 1, none⟩ (.slice D1 r1 t1)) := (by repeat' (first | (with_reducible exact Keeps.refl _ _) | (with_reducible refine Keeps.alloc ?_ _) | (with_reducible refine Keeps.drew ?_) | (with_reducible refine Keeps.drewN ?_ _) | (with_reducible refine Keeps.setCell ?_ ?_ _) | (refine Keeps.call ?_ (by with_reducible assumption)) | (with_reducible refine Keeps.ext ?_ _) | (simp; done) | (simp; omega) | omega))
            have HS12 := Lib.hid (HS11.out.sw (p := .slice D0 r0 t0) (q := .slice D1 r1 t1))
            have HD0 := Lib.hid ((hd0.mono (S' := fun b => b ≠ b9 + 1 ∧ w10.heap.size ≤ b) (fun b hb _ => ⟨by have : w10.heap.size ≤ b := hb; omega, hb⟩)).frame (w' := ((w11.setCell ⟨b9 + 1, 0, none⟩ (.slice D0 r0 t0)).setCell ⟨b9 + 1, 1, none⟩ (.slice D1 r1 t1))) (fun b hb hlt => hk.1 b hb.1 hlt) hk.2)
            have HD1 := Lib.hid ((hd1.mono (S' := fun b => b ≠ b9 + 1 ∧ w10.heap.size ≤ b) (fun b hb _ => ⟨by have : w10.heap.size ≤ b := hb; omega, hb⟩)).frame (w' := ((w11.setCell ⟨b9 + 1, 0, none⟩ (.slice D0 r0 t0)).setCell ⟨b9 + 1, 1, none⟩ (.slice D1 r1 t1))) (fun b hb hlt => hk.1 b hb.1 hlt) hk.2)
            have hy0 := Lib.hid (((hY0.out.all hb11).mono (S' := fun b => b ≠ b9 + 1 ∧ (b9 + 1 < b ∧ b < w8.heap.size)) (fun b hb _ => by have : w5.heap.size ≤ b := hb.1; have := hb.2; exact ⟨by omega, by omega, by omega⟩)).frame (w' := ((w11.setCell ⟨b9 + 1, 0, none⟩ (.slice D0 r0 t0)).setCell ⟨b9 + 1, 1, none⟩ (.slice D1 r1 t1))) (fun b hb hlt => hk.1 b hb.1 hlt) hk.2)
            have hy1 := Lib.hid (((hY1.out.all hb11).mono (S' := fun b => b ≠ b9 + 1 ∧ (b9 + 1 < b ∧ b < w8.heap.size)) (fun b hb _ => by have : w5.heap.size ≤ b := hb.1; have := hb.2; exact ⟨by omega, by omega, by omega⟩)).frame (w' := ((w11.setCell ⟨b9 + 1, 0, none⟩ (.slice D0 r0 t0)).setCell ⟨b9 + 1, 1, none⟩ (.slice D1 r1 t1))) (fun b hb hlt => hk.1 b hb.1 hlt) hk.2)
            obtain ⟨g0, g1, g2, g3⟩ := HS11.out.cw
            clear hd0 hd1 hb11 hk hY0 hY1 HS10
            go_wp2_with fail
            go_meet
            case rel => exact ⟨0, y, [], C0, p0, q0, C1, p1, q1, D0, r0, t0, D1, r1, t1, none, 0, 0, none, 0, 0, w8.heap.size, rfl, rfl, rfl, rfl, (fun _ => HSMR.out), HS12.out, hy0.out.mono (fun b hb _ => hb.2), hy1.out.mono (fun b hb _ => hb.2), HD0.out.mono (fun b hb _ => by have := hb.2; omega), HD1.out.mono (fun b hb _ => by have := hb.2; omega), Sl.nil_ (by decide), Sl.nil_ (by decide), by omega⟩
          · obtain rfl : R = (⟨[], []⟩, 1) := hbad.out (fun h => hpp ⟨h.2.2.2.1, h.2.2.2.2⟩)
            rw [decide_eq_false hpp] at hbt
            have HPP := Lib.hid hpp; clear hpp
            go_wp2_with fail
            refine hbt.mono ?_
            clear hbt
            rintro e w10 ⟨rfl, hb10⟩
            have HBB := Lib.hid hb10; clear hb10
            go_wp2_with fail
            go_meet
            case rel => exact hmet.out _ HBB.out (by trivial)
    · obtain rfl := h
      have hct := Count_c (w := w5) HS5.out.i0 HS5.out.i1
      rw [HR.out] at hct
      have hcr : countR x = if slotsOkB x = true then ((cnt x x.free.length : Nat) : Int) else 0 := rfl
      generalize countR x = cr at *
      have HCR := Lib.hid hcr; clear hcr
      obtain ⟨g0, g1⟩ := HS5.out.ci
      go_wp2_with fail
      refine hct.mono ?_
      clear hct g0 g1
      rintro e w7 ⟨rfl, hb7⟩
      have HS7 := Lib.hid (HS5.out.all hb7)
      clear hb7 HS5
      go_upto_if 38 with (fail)
      go_cut [8, 18] from 19 (fun s8 s18 V => s8 = .int .i64 (okErr r) ∧ s18 = .int .i64 cr ∧ SW w S x va A0 n0 c0 A1 n1 c1 B0 m0 k0 B1 m1 k1 b6 b9 (.slice none 0 0) (.slice none 0 0) (.slice none 0 0) (.slice none 0 0) V)
      case first =>
        cases r with
        | false =>
          obtain rfl : cr = 0 := HCR.out.trans (by rw [HR.out]; rfl)
          go_wp2_with fail
          go_meet
          case rel => exact ⟨rfl, rfl, HS7.out⟩
        | true =>
          have hxo := slotsOk_of HR.out
          obtain rfl : cr = ((cnt x n1 : Nat) : Int) := HCR.out.trans (by rw [HR.out, HL1.out]; rfl)
          have hrc := refCount_c (w := w7) HS7.out.x0 HS7.out.x1 (by have := HL1.out; have := HSM.out.2.1; omega) (by have := HL1.out; have := HL0.out; have := hxo.same; omega) HSM.out.rows
          generalize cnt x n1 = kk at *
          clear hxo
          obtain ⟨g0, g1⟩ := HS7.out.cx
          go_wp2_with fail
          refine hrc.mono ?_
          clear hrc g0 g1
          rintro e w8 ⟨rfl, hb8⟩
          have HS8 := Lib.hid (HS7.out.all hb8)
          clear hb8
          go_wp2_with fail
          go_meet
          case rel => exact ⟨rfl, rfl, HS8.out⟩
      case rest =>
        obtain ⟨rfl, rfl, hsw⟩ := hcut
        have HS8 := Lib.hid hsw; clear hsw HS7
        have CELLS : Hid (∀ us w6, WdC (okErr r) wc (.slice A0 n0 c0) (.slice A1 n1 c1) (w.heap.size + 1 + 1) us w6 → 15 ∉ us.map Prod.fst → SW w S x va A0 n0 c0 A1 n1 c1 B0 m0 k0 B1 m1 k1 b6 b9 (.slice none 0 0) (.slice none 0 0) (.slice none 0 0) (.slice none 0 0) w6) := Lib.hid (fun us w6 hW h => HS8.out.all (hW.below h))
        go_wp2_with fail
        refine region_free (by kernel_rfl) (by kernel_rfl) 201 rfl [41, 42, 43, 44, 45, 46, 47, 48, 49, 50, 51, 52, 53, 54, 55, 5] [2, 13, 15] [(43, 2), (54, 13)]
          [(41, [], fun _ => .agg #[.slice A0 n0 c0, .slice A1 n1 c1]), (42, [], fun _ => .int .i64 (okErr r)), (44, [], fun _ => .int .i64 (okErr r)), (45, [2], fun _ => .bool true), (46, [2], fun _ => .bool true), (47, [], fun _ => .int .i64 cr), (48, [], fun _ => .int .i64 cr), (49, [], fun _ => .bool true), (50, [2], fun _ => .bool true), (51, [2], fun _ => .bool true),
            (52, [], fun _ => .agg #[.slice B0 m0 k0, .slice B1 m1 k1]), (53, [], fun _ => .agg #[.slice A0 n0 c0, .slice A1 n1 c1]), (55, [2, 13], fun _ => .bool true), (5, [2, 13], fun _ => .bool true)]
          [[15], [], [], [], [], [], [], [], [], [], [], [13], [13], [15], [], [], []] [[], [], [], [], [], [], [], [], [], [], [], [], [], [], [], [13], []]
          [[], [], [42], [], [43, 44], [45], [46], [46], [47, 48, 46], [46, 49], [50], [51], [51], [52, 53, 51], [51, 54], [41], [55]] (WdC (okErr r) wc (.slice A0 n0 c0) (.slice A1 n1 c1) (w.heap.size + 1 + 1)) (by kernel_rfl) (.init _ _ _ _ _)
          ⟨?_, ?_, ?_, ?_, ?_, ?_, ?_, ?_, ?_, ?_, ?_, ?_, ?_, ?_, ?_, ?_, ?_, trivial⟩ ?_
        · (refine OpH.rd rfl rfl (fun ρ us w6 ho ht hc hl hsrc hW => ?_); have e2 := (ho 2 rfl).trans (show _ = (.pointer (some ⟨w.heap.size, 0, none⟩) : Value) from rfl); obtain ⟨y0, y1⟩ := (CELLS.out us w6 hW (hl 15 (by decide))).cx; clear ht ho; simp only [execOp, e2]; go_simp; try rfl)
        · (refine OpH.rd rfl rfl (fun ρ us w6 ho ht hc hl hsrc hW => ?_); have e17 := (ho 17 rfl).trans (show _ = (.int .i64 (okErr r) : Value) from rfl); clear ht ho; simp only [execOp, e17]; go_simp; try rfl)
        · refine OpH.wr rfl (fun A us w6 ho ht hni hlim hreq hW K hK => ?_)
          have e42 := (ht 42 (by decide)).trans (show _ = (.int .i64 (okErr r) : Value) from rfl)
          have hcl := num_c (w := w6) (e := okErr r)
          refine step_call rfl 74 #[.tmp 42] #[39] rfl Try.func74 (by kernel_rfl) (by kernel_rfl) #[.int .i64 (okErr r)] (by simp [e42]) (hcl) ?_
          rintro e w7 ⟨rfl, hb7⟩
          exact ⟨_, rfl, hK _ _ (hW.call hb7 (by decide) (fun _ => rfl) (fun h => absurd h (by decide)))⟩
        · (refine OpH.rd rfl rfl (fun ρ us w6 ho ht hc hl hsrc hW => ?_); have e8 := (ho 8 rfl).trans (show _ = (.int .i64 (okErr r) : Value) from rfl); clear ht ho; simp only [execOp, e8]; go_simp; try rfl)
        · (refine OpH.rd rfl rfl (fun ρ us w6 ho ht hc hl hsrc hW => ?_); have e43 := (ht 43 (by decide)).trans (show _ = ((us.lookup 2).getD undef : Value) from rfl); have e44 := (ht 44 (by decide)).trans (show _ = (.int .i64 (okErr r) : Value) from rfl); rw [hW.at2 (hsrc 2 (by exact (List.mem_singleton.2 rfl : (2 : Nat) ∈ [2])))] at e43; clear ht ho; simp only [execOp, e43, e44]; go_simp; try rfl)
        · (refine OpH.rd rfl rfl (fun ρ us w6 ho ht hc hl hsrc hW => ?_); have e45 := (ht 45 (by decide)).trans (show _ = (.bool true : Value) from rfl); clear ht ho; simp only [execOp, e45]; go_simp; try rfl)
        · (refine OpH.rdg rfl 5 46 true rfl rfl (by decide) (fun _ _ _ => rfl) (fun ρ us w6 ho ht hc hl hsrc hW => ?_); have e16 := (ho 16 rfl).trans (show _ = (.int .i64 cr : Value) from rfl); clear ht ho; simp only [execOp, e16]; go_simp; try rfl)
        · (refine OpH.rdg rfl 5 46 true rfl rfl (by decide) (fun _ _ _ => rfl) (fun ρ us w6 ho ht hc hl hsrc hW => ?_); have e18 := (ho 18 rfl).trans (show _ = (.int .i64 cr : Value) from rfl); clear ht ho; simp only [execOp, e18]; go_simp; try rfl)
        · (refine OpH.rdg rfl 5 46 true rfl rfl (by decide) (fun _ _ _ => rfl) (fun ρ us w6 ho ht hc hl hsrc hW => ?_); have e47 := (ht 47 (by decide)).trans (show _ = (.int .i64 cr : Value) from rfl); have e48 := (ht 48 (by decide)).trans (show _ = (.int .i64 cr : Value) from rfl); clear ht ho; simp only [execOp, e47, e48]; go_simp; try rfl)
        · (refine OpH.rd rfl rfl (fun ρ us w6 ho ht hc hl hsrc hW => ?_); have e46 := (ht 46 (by decide)).trans (show _ = (.bool true : Value) from rfl); have e49 := (ht 49 (by decide)).trans (show _ = (.bool true : Value) from rfl); clear ht ho; simp only [execOp, e46, e49]; go_simp; try rfl)
        · (refine OpH.rd rfl rfl (fun ρ us w6 ho ht hc hl hsrc hW => ?_); have e50 := (ht 50 (by decide)).trans (show _ = (.bool true : Value) from rfl); clear ht ho; simp only [execOp, e50]; go_simp; try rfl)
        · (refine OpH.rdg rfl 10 51 true rfl rfl (by decide) (fun _ _ _ => rfl) (fun ρ us w6 ho ht hc hl hsrc hW => ?_); have e6 := (ho 6 rfl).trans (show _ = (.pointer (some ⟨b6, 0, none⟩) : Value) from rfl); obtain ⟨y0, y1⟩ := (CELLS.out us w6 hW (fun h => hl 13 (by decide) (hW.le h))).ci; clear ht ho; simp only [execOp, e6]; go_simp; try rfl)
        · (refine OpH.rdg rfl 10 51 true rfl rfl (by decide) (fun _ _ _ => rfl) (fun ρ us w6 ho ht hc hl hsrc hW => ?_); have e2 := (ho 2 rfl).trans (show _ = (.pointer (some ⟨w.heap.size, 0, none⟩) : Value) from rfl); obtain ⟨y0, y1⟩ := (CELLS.out us w6 hW (fun h => hl 13 (by decide) (hW.le h))).cx; clear ht ho; simp only [execOp, e2]; go_simp; try rfl)
        · refine OpH.wr rfl (fun A us w6 ho ht hni hlim hreq hW K hK => ?_)
          have e51 := (ht 51 (by decide)).trans (show _ = (.bool true : Value) from rfl)
          have e52 := (ht 52 (by decide)).trans (show _ = (.agg #[.slice B0 m0 k0, .slice B1 m1 k1] : Value) from rfl)
          have e53 := (ht 53 (by decide)).trans (show _ = (.agg #[.slice A0 n0 c0, .slice A1 n1 c1] : Value) from rfl)
          have hS := CELLS.out us w6 hW (hlim 15 (by decide))
          have hcl := EqSlots_c hS.i0 hS.i1 hS.x0 hS.x1
          rw [decide_eq_true (rfl : x = x)] at hcl
          refine step_callw (GuardOk.wanted (.at_ (j := 10) (t := 51) (b := true) rfl rfl e51)) 39 #[.tmp 52, .tmp 53] #[62, 62] rfl Try.func39 (by kernel_rfl) (by kernel_rfl) #[.agg #[.slice B0 m0 k0, .slice B1 m1 k1], .agg #[.slice A0 n0 c0, .slice A1 n1 c1]] (by simp [e52, e53]) hcl ?_
          rintro e w7 ⟨rfl, hb7⟩
          exact ⟨_, rfl, hK _ _ (hW.call hb7 (by decide) (fun h => absurd h (by decide)) (fun _ => rfl))⟩
        · (refine OpH.rd rfl rfl (fun ρ us w6 ho ht hc hl hsrc hW => ?_); have e51 := (ht 51 (by decide)).trans (show _ = (.bool true : Value) from rfl); have e54 := (ht 54 (by decide)).trans (show _ = ((us.lookup 13).getD undef : Value) from rfl); rw [hW.at13 (hsrc 13 (by exact (List.mem_cons_of_mem _ (List.mem_singleton.2 rfl) : (13 : Nat) ∈ [2, 13])))] at e54; clear ht ho; simp only [execOp, e51, e54]; go_simp; try rfl)
        · refine OpH.wr rfl (fun A us w6 ho ht hni hlim hreq hW K hK => ?_)
          have e41 := (ht 41 (by decide)).trans (show _ = (.agg #[.slice A0 n0 c0, .slice A1 n1 c1] : Value) from rfl)
          have e4 := (ho 4 rfl).trans (show _ = (.pointer (some ⟨w.heap.size + 1 + 1, 0, none⟩) : Value) from rfl)
          obtain ⟨f0, f1, f2, f3⟩ := (CELLS.out us w6 hW hni).cr
          have HK := Lib.hid (fun x => hK x _ (hW.store (x := x) hni (hreq 13 (by decide)))); clear hK hW hni hlim hreq ho ht
          rw [if_pos (by simp [Region.wanted])]
          unfold Oper.wp
          generalize A.eval = ρ at *
          simp only [execOp, e41, e4]
          go_simp
          exact HK.out undef
        · (refine OpH.rd rfl rfl (fun ρ us w6 ho ht hc hl hsrc hW => ?_); have e55 := (ht 55 (by decide)).trans (show _ = (.bool true : Value) from rfl); clear ht ho; simp only [execOp, e55]; go_simp; try rfl)
        · intro us w9 hmem hW
          obtain ⟨U, hU, hV⟩ := hW.2.2.2.2 (hmem 15 (by decide))
          simp only [putAll, List.map_cons, List.map_nil, List.foldl_cons, List.foldl_nil, Act.put, List.setIfInBounds_toArray, List.set_cons_succ, List.set_cons_zero]
          generalize hsv : slotAt _ _ us = sv
          have h5 : sv 5 = .bool true := by rw [← hsv]; rfl
          clear hsv hmem hW
          have hS9 := HS8.out.all hU
          have hx0 := hS9.x0
          have hx1 := hS9.x1
          have h6l := hS9.lo
          have hbr := (hV.block (w.heap.size + 2) (by have := hS9.hi; have := hS9.le; simp; omega)).trans (show ((U.setCell ⟨w.heap.size + 1 + 1, 0, none⟩ (.slice A0 n0 c0)).setCell ⟨w.heap.size + 1 + 1, 1, none⟩ (.slice A1 n1 c1)).heap[w.heap.size + 2]? = _ from row_set2 hS9.br)
          have p0 := (cell_of_row w9 (w.heap.size + 1 + 1) 0 _ _ _ hbr).trans (show _ = some (Value.slice A0 n0 c0) from rfl)
          have p1 := (cell_of_row w9 (w.heap.size + 1 + 1) 1 _ _ _ hbr).trans (show _ = some (Value.slice A1 n1 c1) from rfl)
          have hk' : ∀ b, (S b ∧ b < w.heap.size) → b < U.heap.size → ((U.setCell ⟨w.heap.size + 1 + 1, 0, none⟩ (.slice A0 n0 c0)).setCell ⟨w.heap.size + 1 + 1, 1, none⟩ (.slice A1 n1 c1)).heap[b]? = U.heap[b]? := fun b hb _ => by rw [Below.heap_setCell _ _ _ _ (by simp; omega), Below.heap_setCell _ _ _ _ (by simp; omega)]
          have hbW : Below w.heap.size w ((U.setCell ⟨w.heap.size + 1 + 1, 0, none⟩ (.slice A0 n0 c0)).setCell ⟨w.heap.size + 1 + 1, 1, none⟩ (.slice A1 n1 c1)) := (hS9.below.setCell (by show w.heap.size ≤ w.heap.size + 1 + 1; omega) _).setCell (by show w.heap.size ≤ w.heap.size + 1 + 1; omega) _
          have hfin : Hid (RetStep S w (.returned (.tuple #[.agg #[.slice A0 n0 c0, .slice A1 n1 c1], .bool true])) w9) := Lib.hid
            ⟨x, _, _, _, _, _, _, rfl, HSM.out, ((hx0.frame hk' (by simp)).all hV).mono (fun b hb _ => .inl hb.1), ((hx1.frame hk' (by simp)).all hV).mono (fun b hb _ => .inl hb.1), hbW.trans (hV.mono hbW.size)⟩
          clear hk' hx0 hx1 hS9 hbW hV hU hbr
          go_wp2
          refine bodyPost_ret (v := .tuple #[.agg #[.slice A0 n0 c0, .slice A1 n1 c1], .bool true]) (by simp [results, Try.results80, go_sem, *]; done) rfl ?_
          exact hfin.out
  case rest =>
    obtain ⟨e, y, l, C0, p0, q0, C1, p1, q1, D0, r0, t0, D1, r1, t1, E, ne, ce, F, nf, cf, hi, rfl, rfl, rfl, rfl, hsy, hsd⟩ := hcut
    have HSY := Lib.hid hsy; clear hsy
    have HS6 := Lib.hid hsd; clear hsd
    clear HS5 HDK
    go_wp2_with fail
    refine num_c.mono ?_
    rintro e6 w6 ⟨rfl, hb6⟩
    have HS7 := Lib.hid (HS6.out.all hb6); clear HS6 hb6
    obtain ⟨g0, g1, _, _⟩ := HS7.out.sw.cy
    obtain ⟨g2, g3, _, _⟩ := HS7.out.sw.cw
    go_wp2_with fail
    refine (EqSlots_c HS7.out.y0 HS7.out.y1 HS7.out.d0 HS7.out.d1).mono ?_
    clear g0 g1 g2 g3
    rintro e7 w7 ⟨rfl, hb7⟩
    rw [decide_eq_true (rfl : y = y)]
    have HS8 := Lib.hid (HS7.out.all hb7); clear HS7 hb7
    go_wp2_with fail
    refine (EqSlotList_c HS8.out.l0 HS8.out.l1).mono ?_
    rintro e8 w8 ⟨rfl, hb8⟩
    rw [decide_eq_true (rfl : l = l)]
    have HS9 := Lib.hid (HS8.out.all hb8); clear HS8 hb8
    obtain ⟨g0, g1⟩ := HS9.out.sw.cx
    obtain ⟨g2, g3⟩ := HS9.out.sw.ci
    go_wp2_with fail
    refine (EqSlots_c HS9.out.sw.i0 HS9.out.sw.i1 HS9.out.sw.x0 HS9.out.sw.x1).mono ?_
    clear g0 g1 g2 g3
    rintro e9 w9 ⟨rfl, hb9⟩
    rw [decide_eq_true (rfl : x = x)]
    have HS10 := Lib.hid (HS9.out.all hb9); clear HS9 hb9
    obtain ⟨g2, g3⟩ := HS10.out.sw.ci
    go_wp2_with fail
    refine (slotsCheck_c HS10.out.sw.i0 HS10.out.sw.i1).mono ?_
    clear g2 g3
    rintro e10 w10 ⟨rfl, hb10⟩
    rw [HR.out]
    have HS11 := Lib.hid (HS10.out.all hb10); clear HS10 hb10
    go_wp2_with fail
    refine num_c.mono ?_
    rintro e11 w11 ⟨rfl, hb11⟩
    have HS12 := Lib.hid (HS11.out.all hb11); clear HS11 hb11
    have hok : (okErr r == 0) = r := by cases r <;> rfl
    have hok2 : decide (okErr r = 0) = r := by cases r <;> rfl
    obtain ⟨g0, g1, _, _⟩ := HS12.out.sw.cy
    go_wp2_with fail
    refine (spoil_c HS12.out.y0 HS12.out.y1).mono ?_
    clear g0 g1 hok hok2
    rintro e12 w12 ⟨⟨v12, rfl⟩, hT⟩
    have hlo := HS12.out.hh
    have hhi := HS12.out.sw.hi
    have h6l := HS12.out.sw.lo
    have h69 := HS12.out.sw.le
    have hbl : ∀ b, b ≤ b9 + 1 → w12.heap[b]? = w11.heap[b]? := fun b hb => hT.block b (by omega) (fun h => by omega)
    have hB12 : Below w.heap.size w w12 := HS12.out.sw.below.trans ⟨hT.os, hT.tape, hT.output, hT.size, fun b hb => hbl b (by omega)⟩
    have HS13 := Lib.hid (HS12.out.sw.frame hbl hT.size hB12)
    have hd0 := HS12.out.d0.frame (w' := w12) (fun b hb hlt => hT.block b hlt (fun h => by omega)) hT.size
    have hd1 := HS12.out.d1.frame (w' := w12) (fun b hb hlt => hT.block b hlt (fun h => by omega)) hT.size
    have HD0 := Lib.hid hd0; clear hd0
    have HD1 := Lib.hid hd1; clear hd1
    clear hbl hB12 hT HS12
    obtain ⟨g0, g1⟩ := HS13.out.cx
    obtain ⟨g2, g3⟩ := HS13.out.ci
    go_wp2_with fail
    refine (EqSlots_c HS13.out.i0 HS13.out.i1 HS13.out.x0 HS13.out.x1).mono ?_
    clear g0 g1 g2 g3
    rintro e13 w13 ⟨rfl, hb13⟩
    rw [decide_eq_true (rfl : x = x)]
    have HS14 := Lib.hid (HS13.out.all hb13); clear HS13
    have HD2 := Lib.hid (HD0.out.all hb13); clear HD0
    have HD3 := Lib.hid (HD1.out.all hb13); clear HD1 hb13
    obtain ⟨f0, f1, f2, f3⟩ := HS14.out.cr
    have hh14 := HS14.out.hi
    by_cases he : e = 0
    · subst he
      obtain ⟨g0, g1, _, _⟩ := HS14.out.cw
      have hsmy := HSY.out rfl
      have hcopy := CopySlots_c HD2.out HD3.out (by have := HD2.out.len; have := hsmy.1; omega) (by have := HD3.out.len; have := hsmy.2.1; omega) hsmy.rows
      have HSMY := Lib.hid hsmy; clear hsmy
      go_wp2_with fail
      refine hcopy.mono ?_
      clear hcopy g0 g1
      rintro e14 w14 ⟨vs, rfl, ⟨G0, g0, g0', G1, g1, g1', rfl, _, hy0, hy1⟩, hb14⟩
      have HS15 := Lib.hid (HS14.out.all hb14)
      clear f0 f1 f2 f3
      obtain ⟨f0, f1, f2, f3⟩ := HS15.out.cr
      have s14 := hb14.size
      have hk : Keeps (fun b => w13.heap.size ≤ b) w14 ((w14.setCell ⟨w.heap.size + 1 + 1, 0, none⟩ (.slice G0 g0 g0')).setCell ⟨w.heap.size + 1 + 1, 1, none⟩ (.slice G1 g1 g1')) := (by repeat' (first | (with_reducible exact Keeps.refl _ _) | (with_reducible refine Keeps.alloc ?_ _) | (with_reducible refine Keeps.drew ?_) | (with_reducible refine Keeps.drewN ?_ _) | (with_reducible refine Keeps.setCell ?_ ?_ _) | (refine Keeps.call ?_ (by with_reducible assumption)) | (with_reducible refine Keeps.ext ?_ _) | (simp; done) | (simp; omega) | omega))
      have hfin : Hid (RetStep S w (.returned (.tuple #[.agg #[.slice G0 g0 g0', .slice G1 g1 g1'], .bool true])) ((w14.setCell ⟨w.heap.size + 1 + 1, 0, none⟩ (.slice G0 g0 g0')).setCell ⟨w.heap.size + 1 + 1, 1, none⟩ (.slice G1 g1 g1'))) := Lib.hid
        ⟨y, _, _, _, _, _, _, rfl, HSMY.out, (hy0.keep hk).mono (fun b hb _ => .inr (by have : w13.heap.size ≤ b := hb; omega)), (hy1.keep hk).mono (fun b hb _ => .inr (by have : w13.heap.size ≤ b := hb; omega)), (HS15.out.below.setCell (by show w.heap.size ≤ w.heap.size + 1 + 1; omega) _).setCell (by show w.heap.size ≤ w.heap.size + 1 + 1; omega) _⟩
      clear hk hy0 hy1 hb14
      go_wp2
      refine bodyPost_ret (v := .tuple #[.agg #[.slice G0 g0 g0', .slice G1 g1 g1'], .bool true]) (by simp [results, Try.results80, go_sem, *]; done) rfl ?_
      exact hfin.out
    · have hne : (e != 0) = true := by simp [he]
      obtain ⟨g0, g1⟩ := HS14.out.cx
      have hx0 := HS14.out.x0
      have hx1 := HS14.out.x1
      have hk' : ∀ b, (S b ∧ b < w.heap.size) → b < w13.heap.size → ((w13.setCell ⟨w.heap.size + 1 + 1, 0, none⟩ (.slice A0 n0 c0)).setCell ⟨w.heap.size + 1 + 1, 1, none⟩ (.slice A1 n1 c1)).heap[b]? = w13.heap[b]? := fun b hb _ => by rw [Below.heap_setCell _ _ _ _ (by simp; omega), Below.heap_setCell _ _ _ _ (by simp; omega)]
      have hfin : Hid (RetStep S w (.returned (.tuple #[.agg #[.slice A0 n0 c0, .slice A1 n1 c1], .bool true])) ((w13.setCell ⟨w.heap.size + 1 + 1, 0, none⟩ (.slice A0 n0 c0)).setCell ⟨w.heap.size + 1 + 1, 1, none⟩ (.slice A1 n1 c1))) := Lib.hid
        ⟨x, _, _, _, _, _, _, rfl, HSM.out, (hx0.frame hk' (by simp)).mono (fun b hb _ => .inl hb.1), (hx1.frame hk' (by simp)).mono (fun b hb _ => .inl hb.1), (HS14.out.below.setCell (by show w.heap.size ≤ w.heap.size + 1 + 1; omega) _).setCell (by show w.heap.size ≤ w.heap.size + 1 + 1; omega) _⟩
      clear hk' hx0 hx1
      go_wp2
      refine bodyPost_ret (v := .tuple #[.agg #[.slice A0 n0 c0, .slice A1 n1 c1], .bool true]) (by simp [results, Try.results80, go_sem, *]; done) rfl ?_
      exact hfin.out
end Go.Proofs.Ytfccghfcilccfaa
