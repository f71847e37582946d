/- The page's giving back: the place in the row is found one by one: in plain. -/
import Derived.Test.YtfccghfcilccfaaP2
namespace Go.Proofs.Ytfccghfcilccfaa
open Go.RowKit Go.Silo

theorem countP_lt_at {l : List Int} {a : Int} {k : Nat} (hs : l.Pairwise (· < ·)) (hk : k ≤ l.length) (h1 : ∀ j, j < k → l.getD j 0 < a) (h2 : k < l.length → a ≤ l.getD k 0) : l.countP (· < a) = k := by
  induction l generalizing k with
  | nil => simp at hk; simp [hk]
  | cons y ys ih =>
    rw [List.pairwise_cons] at hs
    cases k with
    | zero =>
      have h0 : a ≤ y := by simpa using h2 (by simp)
      rw [List.countP_eq_zero]
      intro z hz
      rcases List.mem_cons.1 hz with rfl | hz
      · simp; omega
      · have := hs.1 z hz; simp; omega
    | succ k =>
      have hy : y < a := by simpa using h1 0 (by omega)
      rw [List.countP_cons, ih hs.2 (by simpa using hk) (fun j hj => by simpa using h1 (j + 1) (by omega)) (fun hk' => by simpa using h2 (by simpa using hk'))]
      simp [hy]
end Go.Proofs.Ytfccghfcilccfaa
