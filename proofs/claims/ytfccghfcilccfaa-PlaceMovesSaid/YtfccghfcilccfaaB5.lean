/- A region that draws its order and stores nothing: what each step has yielded stays true whatever is made behind it. -/
import Derived.Test.YtfccghfcilccfaaB4
import Derived.Below
namespace Go.Silo
open Go Go.RowKit

def tupleAt (k : Nat) : Value → Value
  | .tuple vs => vs.getD k undef
  | _ => undef

theorem lookup_mem {us : List (Nat × Value)} {c : Nat} (hm : c ∈ us.map Prod.fst) : ∃ v, us.lookup c = some v ∧ (c, v) ∈ us := by
  induction us with
  | nil => simp at hm
  | cons p us ih =>
    obtain ⟨a, b⟩ := p
    rw [List.lookup_cons]
    by_cases hc : c = a
    · subst hc
      simp only [beq_self_eq_true]
      exact ⟨b, rfl, List.mem_cons_self ..⟩
    · have hne : (c == a) = false := by simpa using hc
      rw [hne]
      obtain ⟨v, h1, h2⟩ := ih (by simpa [hc] using hm)
      exact ⟨v, h1, List.mem_cons_of_mem _ h2⟩

/-- Only new memory was made; what step i yielded is as R says. -/
def WdB (V : World) (R : Nat → Value → World → Prop) (us : List (Nat × Value)) (W : World) : Prop := Below V.heap.size V W ∧ ∀ i v, (i, v) ∈ us → R i v W
section
variable {V W W' : World} {R : Nat → Value → World → Prop} {us : List (Nat × Value)}
theorem WdB.init : WdB V R [] V.drew := ⟨(Below.refl _ _).drew, fun _ _ h => by cases h⟩
theorem WdB.snoc (h : WdB V R us W) {i : Nat} {x : Value} (hb : Below W.heap.size W W') (hs : ∀ j v, R j v W → R j v W') (hx : R i x W') : WdB V R (us ++ [(i, x)]) W' := by
  refine ⟨h.1.trans (hb.mono h.1.size), fun j v hj => ?_⟩
  rcases List.mem_append.1 hj with hj | hj
  · exact hs j v (h.2 j v hj)
  · simp at hj
    obtain ⟨rfl, rfl⟩ := hj
    exact hx
theorem WdB.at_ (h : WdB V R us W) {i : Nat} (hm : i ∈ us.map Prod.fst) : R i ((us.lookup i).getD undef) W := by
  obtain ⟨v, h1, h2⟩ := lookup_mem hm
  rw [h1]
  exact h.2 i v h2
end
end Go.Silo
