/- Stripe by stripe, with what the last one left, is as all at once: in plain. -/
import Derived.Test.YtfccghfcilccfaaR6
import Derived.Test.YtfccghfcilccfaaR7
import Derived.Test.YtfccghfcilccfaaE3
import Derived.Test.YtfccghfcilccfaaT9
namespace Go.Proofs.Ytfccghfcilccfaa
open Go.RowKit Go.Silo

theorem manyX_mul {s : Shape} (h : 0 < s.K * s.size) (n : Nat) : manyX s ((n : Int) * (s.K * s.size)) = n := by
  unfold manyX
  generalize s.K * s.size = w at *
  have : ((n : Int) * w + w - 1) / w = n := by
    rw [show (n : Int) * w + w - 1 = (w - 1) + (n : Int) * w by omega, Int.add_mul_ediv_right _ _ (by omega), Int.ediv_eq_zero_of_lt (by omega) (by omega)]
    omega
  rw [this]; rfl
theorem layR_ok {x : SlotsD} {k m : Nat} (hm : m ≠ 0) (hk : k ≤ 12) (h : firstErr x k m = 0) : layR x k m = (fitL x k m, 0) := by
  unfold layR; rw [if_neg hm, if_neg (by omega), if_pos h]
theorem textR_turns {s : Shape} {x : SlotsD} {n k : Nat} (hs : shapeOk s = true) (hx : SlotsOk x) (hk : s.K + s.M = k) (hk12 : k ≤ 12) (hw : 0 < s.K * s.size) (hn : (n : Int) * (s.K * s.size) ≤ 2000) (h1 : 1 ≤ n) (hf : firstErr x k n = 0) :
    textR s x ((n : Int) * (s.K * s.size)) = (fitL x k n, turnsX x k n, 0) := by
  have hl := layR_ok (by omega) hk12 hf
  have h0 : 0 ≤ (n : Int) * (s.K * s.size) := Int.mul_nonneg (by omega) (by omega)
  have hk' : (s.K + s.M).toNat = k := by omega
  rw [textR_ok ⟨hs, slotsOkB_true hx, h0, hn⟩ (by rw [manyX_mul hw, hk', hl]), manyX_mul hw, hk', hl]
theorem fitL_at {x : SlotsD} {k m i : Nat} (h : i < m) : (fitL x k m)[i]? = some (takeL (turnsX x k i) k []) := by
  unfold fitL
  rw [List.getElem?_map, List.getElem?_range h]; rfl
theorem fitL_one (x : SlotsD) (k : Nat) : fitL x k 1 = [takeL x k []] := rfl
theorem turnsX_one (x : SlotsD) (k : Nat) : turnsX x k 1 = stepX x k := rfl
theorem turnsX_succ (x : SlotsD) (k j : Nat) : turnsX x k (j + 1) = stepX (turnsX x k j) k := rfl
theorem firstErr_one {x : SlotsD} {k : Nat} : firstErr x k 1 = takeErr x k [] := by unfold firstErr; rw [if_pos (by rfl)]; rfl
/-- Of few new slots all is told by looking. -/
theorem newFits : ∀ K, K < 3 → ∀ M, M < 2 → ∀ e, e < 3 → ∀ n, n < 5 → firstErr (newX (K + 1 + M + e) 6) (K + 1 + M) n = 0 ∧ spreadX (turnsX (newX (K + 1 + M + e) 6) (K + 1 + M) n) ≤ 1 + ((K + 1 + M : Nat) : Int) := by decide +kernel
theorem rat6 : ∀ j, j < (upto 6).length → 0 ≤ (upto 6).getD j 0 ∧ (upto 6).getD j 0 ≤ 63 ∧ (0 < j → (upto 6).getD (j - 1) 0 < (upto 6).getD j 0) := by decide
theorem rising6 : Rising (upto 6) := rat6
theorem new6_ok {d : Nat} (h1 : 1 ≤ d) (h2 : d ≤ 12) : SlotsOk (newX d 6) := ⟨by simp [newX]; omega, by simp [newX]; omega, by simp [newX], fun l hl => by rw [(List.mem_replicate.1 hl).2]; exact rising6⟩
end Go.Proofs.Ytfccghfcilccfaa
