/- A region that draws its order, makes memory and calls in any order, and then stores twice. -/
import Derived.Test.YtipecejghioicaaB4r
import Derived.Below
-- from B5
namespace Go.Silo
open Go Go.RowKit

theorem lookup_mem {us : List (Nat × Value)} {c : Nat} (hm : c ∈ us.map Prod.fst) : ∃ v, us.lookup c = some v ∧ (c, v) ∈ us := by
  induction us with
  | nil => simp at hm
  | cons p us ih =>
    obtain ⟨a, b⟩ := p
    rw [List.lookup_cons]
    by_cases hc : c = a
    · subst hc
      simp only [beq_self_eq_true]
      exact ⟨b, rfl, List.mem_cons_self ..⟩
    · have hne : (c == a) = false := by simpa using hc
      rw [hne]
      obtain ⟨v, h1, h2⟩ := ih (by simpa [hc] using hm)
      exact ⟨v, h1, List.mem_cons_of_mem _ h2⟩

/-- Only new memory was made; what step i yielded is as R says. -/
def WdB (V : World) (R : Nat → Value → World → Prop) (us : List (Nat × Value)) (W : World) : Prop := Below V.heap.size V W ∧ ∀ i v, (i, v) ∈ us → R i v W
section
variable {V W W' : World} {R : Nat → Value → World → Prop} {us : List (Nat × Value)}
theorem WdB.init : WdB V R [] V.drew := ⟨(Below.refl _ _).drew, fun _ _ h => by cases h⟩
theorem WdB.snoc (h : WdB V R us W) {i : Nat} {x : Value} (hb : Below W.heap.size W W') (hs : ∀ j v, R j v W → R j v W') (hx : R i x W') : WdB V R (us ++ [(i, x)]) W' := by
  refine ⟨h.1.trans (hb.mono h.1.size), fun j v hj => ?_⟩
  rcases List.mem_append.1 hj with hj | hj
  · exact hs j v (h.2 j v hj)
  · simp at hj
    obtain ⟨rfl, rfl⟩ := hj
    exact hx
theorem WdB.at_ (h : WdB V R us W) {i : Nat} (hm : i ∈ us.map Prod.fst) : R i ((us.lookup i).getD undef) W := by
  obtain ⟨v, h1, h2⟩ := lookup_mem hm
  rw [h1]
  exact h.2 i v h2
end
end Go.Silo
namespace Go.Silo
open Go Go.RowKit

/-- The worlds: ahead of the first store, behind it, behind the second. -/
inductive WdT (V : World) (m : Nat) (R : Nat → Value → World → Prop) (Pre : List (Nat × Value) → Prop) (s1 s2 : Nat) (st1 st2 : List (Nat × Value) → World → World) : List (Nat × Value) → World → Prop
  | pre {us : List (Nat × Value)} {W : World} : Below V.heap.size V W → (∀ i v, (i, v) ∈ us → R i v W) → s1 ∉ us.map Prod.fst → s2 ∉ us.map Prod.fst → WdT V m R Pre s1 s2 st1 st2 us W
  | one {us : List (Nat × Value)} {W : World} {x : Value} : Below V.heap.size V W → (∀ i v, (i, v) ∈ us → R i v W) → s1 ∉ us.map Prod.fst → s2 ∉ us.map Prod.fst → Pre us → Below m V (st1 us W) → WdT V m R Pre s1 s2 st1 st2 (us ++ [(s1, x)]) (st1 us W)
  | two {us : List (Nat × Value)} {W : World} {x x' : Value} : Below V.heap.size V W → (∀ i v, (i, v) ∈ us → R i v W) → s1 ∉ us.map Prod.fst → s2 ∉ us.map Prod.fst → Pre us → Below m V (st2 us (st1 us W)) → WdT V m R Pre s1 s2 st1 st2 (us ++ [(s1, x)] ++ [(s2, x')]) (st2 us (st1 us W))
section
variable {V W W' : World} {m : Nat} {R : Nat → Value → World → Prop} {Pre : List (Nat × Value) → Prop} {s1 s2 : Nat} {st1 st2 : List (Nat × Value) → World → World} {us : List (Nat × Value)}
theorem WdT.init : WdT V m R Pre s1 s2 st1 st2 [] V.drew := .pre (Below.refl _ _).drew (fun _ _ h => by cases h) (by simp) (by simp)
theorem WdT.below (h : WdT V m R Pre s1 s2 st1 st2 us W) (hm : m ≤ V.heap.size) : Below m V W := by
  cases h with
  | pre h _ _ _ => exact h.mono hm
  | one _ _ _ _ _ h => exact h
  | two _ _ _ _ _ h => exact h
theorem WdT.early (h : WdT V m R Pre s1 s2 st1 st2 us W) (hn : s1 ∉ us.map Prod.fst) : Below V.heap.size V W ∧ (∀ i v, (i, v) ∈ us → R i v W) ∧ s2 ∉ us.map Prod.fst := by
  cases h with
  | pre hb h _ h2 => exact ⟨hb, h, h2⟩
  | one _ _ _ _ _ _ => exact absurd (by simp) hn
  | two _ _ _ _ _ _ => exact absurd (by simp) hn
theorem WdT.at_ (h : WdT V m R Pre s1 s2 st1 st2 us W) (hn : s1 ∉ us.map Prod.fst) {i : Nat} (hm : i ∈ us.map Prod.fst) : R i ((us.lookup i).getD undef) W := by
  obtain ⟨v, h1, h2⟩ := lookup_mem hm
  rw [h1]
  exact (h.early hn).2.1 i v h2
theorem WdT.snoc (h : WdT V m R Pre s1 s2 st1 st2 us W) {i : Nat} {x : Value} (h1 : i ≠ s1) (h2 : i ≠ s2) (hn : s1 ∉ us.map Prod.fst) (hb : Below W.heap.size W W') (hs : ∀ j v, R j v W → R j v W') (hx : R i x W') : WdT V m R Pre s1 s2 st1 st2 (us ++ [(i, x)]) W' := by
  obtain ⟨hB, hR, hn2⟩ := h.early hn
  refine .pre (hB.trans (hb.mono hB.size)) (fun j v hj => ?_) ?_ ?_
  · rcases List.mem_append.1 hj with hj | hj
    · exact hs j v (hR j v hj)
    · simp at hj
      obtain ⟨rfl, rfl⟩ := hj
      exact hx
  · rw [List.map_append, List.mem_append]
    rintro (h | h)
    · exact hn h
    · simp at h; exact h1 h.symm
  · rw [List.map_append, List.mem_append]
    rintro (h | h)
    · exact hn2 h
    · simp at h; exact h2 h.symm
theorem WdT.mid (h : WdT V m R Pre s1 s2 st1 st2 us W) (h1 : s1 ∈ us.map Prod.fst) (h2 : s2 ∉ us.map Prod.fst) :
    ∃ us0 W0 x, us = us0 ++ [(s1, x)] ∧ W = st1 us0 W0 ∧ Below V.heap.size V W0 ∧ (∀ i v, (i, v) ∈ us0 → R i v W0) ∧ s1 ∉ us0.map Prod.fst ∧ s2 ∉ us0.map Prod.fst ∧ Pre us0 ∧ Below m V (st1 us0 W0) := by
  cases h with
  | pre _ _ h _ => exact absurd h1 h
  | @one us0 W0 x a b c d e f => exact ⟨us0, W0, x, rfl, rfl, a, b, c, d, e, f⟩
  | two _ _ _ _ _ _ => exact absurd (by simp) h2
theorem WdT.last (h : WdT V m R Pre s1 s2 st1 st2 us W) (h2 : s2 ∈ us.map Prod.fst) (hne : s1 ≠ s2) :
    ∃ us0 W0 x x', us = us0 ++ [(s1, x)] ++ [(s2, x')] ∧ W = st2 us0 (st1 us0 W0) ∧ Below V.heap.size V W0 ∧ (∀ i v, (i, v) ∈ us0 → R i v W0) ∧ s1 ∉ us0.map Prod.fst ∧ s2 ∉ us0.map Prod.fst ∧ Pre us0 ∧ Below m V (st2 us0 (st1 us0 W0)) := by
  cases h with
  | pre _ _ _ h => exact absurd h2 h
  | one _ _ _ h _ _ =>
    rw [List.map_append, List.mem_append] at h2
    rcases h2 with h2 | h2
    · exact absurd h2 h
    · simp at h2; exact absurd h2.symm hne
  | @two us0 W0 x x' a b c d e f => exact ⟨us0, W0, x, x', rfl, rfl, a, b, c, d, e, f⟩
/-- A step that came ahead of both stores was there when they began. -/
theorem before_mid {us0 : List (Nat × Value)} {x : Value} {i : Nat} (h : i ∈ (us0 ++ [(s1, x)]).map Prod.fst) (hi : i ≠ s1) : i ∈ us0.map Prod.fst := by
  rw [List.map_append, List.mem_append] at h
  rcases h with h | h
  · exact h
  · simp at h; exact absurd h hi
end
/-- Cells of a block, written one behind the other. -/
def setAll (g : Nat) : Nat → List Value → World → World
  | _, [], W => W
  | k, v :: vs, W => setAll g (k + 1) vs (W.setCell ⟨g, k, none⟩ v)
/-- A tuple's part. -/
def tupAt (k : Nat) : Value → Value
  | .tuple vs => vs.getD k undef
  | _ => undef
theorem setAll_other {g b : Nat} (h : b ≠ g) : ∀ (vs : List Value) (k : Nat) (W : World), (setAll g k vs W).heap[b]? = W.heap[b]?
  | [], _, _ => rfl
  | _ :: vs, k, _ => (setAll_other h vs (k + 1) _).trans (Below.heap_setCell _ ⟨g, k, none⟩ _ _ h)
theorem setAll_below {g m : Nat} {V : World} (h : m ≤ g) : ∀ (vs : List Value) (k : Nat) (W : World), Below m V W → Below m V (setAll g k vs W)
  | [], _, _, hb => hb
  | _ :: vs, k, _, hb => setAll_below h vs (k + 1) _ (hb.setCell h _)
theorem setAll_4 {g : Nat} {a b c d u v z y : Value} {T : TypeId} {W : World} (h : W.heap[g]? = some (.cells #[u, v, z, y] T (0, 0))) : (setAll g 0 [a, b, c, d] W).heap[g]? = some (.cells #[a, b, c, d] T (0, 0)) := by
  simp [setAll, World.setCell, Array.getElem?_modify, h]
end Go.Silo
