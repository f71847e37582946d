/- Calls and blocks in any drawn order, then one store (as in K3; never import both). -/
import Derived.Test.YtipecejghioicaaB6r
namespace Go.Silo
open Go Go.RowKit
/-- As WdT, but with one store. -/
inductive WdS (V : World) (R : Nat → Value → World → Prop) (s1 : Nat) (st1 : List (Nat × Value) → World → World) : List (Nat × Value) → World → Prop
  | pre {us : List (Nat × Value)} {W : World} : Below V.heap.size V W → (∀ i v, (i, v) ∈ us → R i v W) → s1 ∉ us.map Prod.fst → WdS V R s1 st1 us W
  | one {us : List (Nat × Value)} {W : World} {x : Value} : Below V.heap.size V W → (∀ i v, (i, v) ∈ us → R i v W) → s1 ∉ us.map Prod.fst → WdS V R s1 st1 (us ++ [(s1, x)]) (st1 us W)
section
variable {V W W' : World} {R : Nat → Value → World → Prop} {s1 : Nat} {st1 : List (Nat × Value) → World → World} {us : List (Nat × Value)}
theorem WdS.init : WdS V R s1 st1 [] V.drew := .pre (Below.refl _ _).drew (fun _ _ h => by cases h) (by simp)
theorem WdS.early (h : WdS V R s1 st1 us W) (hn : s1 ∉ us.map Prod.fst) : Below V.heap.size V W ∧ ∀ i v, (i, v) ∈ us → R i v W := by
  cases h with
  | pre hb h _ => exact ⟨hb, h⟩
  | one _ _ _ => exact absurd (by simp) hn
theorem WdS.snoc (h : WdS V R s1 st1 us W) {i : Nat} {x : Value} (h1 : i ≠ s1) (hn : s1 ∉ us.map Prod.fst) (hb : Below W.heap.size W W') (hs : ∀ j v, R j v W → R j v W') (hx : R i x W') : WdS V R s1 st1 (us ++ [(i, x)]) W' := by
  obtain ⟨hB, hR⟩ := h.early hn
  refine .pre (hB.trans (hb.mono hB.size)) (fun j v hj => ?_) ?_
  · rcases List.mem_append.1 hj with hj | hj
    · exact hs j v (hR j v hj)
    · simp at hj
      obtain ⟨rfl, rfl⟩ := hj
      exact hx
  · rw [List.map_append, List.mem_append]
    rintro (h | h)
    · exact hn h
    · simp at h; exact h1 h.symm
theorem WdS.store (h : WdS V R s1 st1 us W) (hn : s1 ∉ us.map Prod.fst) {x : Value} : WdS V R s1 st1 (us ++ [(s1, x)]) (st1 us W) := .one (h.early hn).1 (h.early hn).2 hn
theorem WdS.last (h : WdS V R s1 st1 us W) (h1 : s1 ∈ us.map Prod.fst) : ∃ us0 W0 x, us = us0 ++ [(s1, x)] ∧ W = st1 us0 W0 ∧ Below V.heap.size V W0 ∧ (∀ i v, (i, v) ∈ us0 → R i v W0) ∧ s1 ∉ us0.map Prod.fst := by
  cases h with
  | pre _ _ h => exact absurd h1 h
  | @one us0 W0 x a b c => exact ⟨us0, W0, x, rfl, rfl, a, b, c⟩
end
end Go.Silo
