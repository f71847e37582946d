/- A text fits just if as many stripes as it has go in; no slot is told twice: in plain. -/
import Derived.Test.YtfccghfcilccfaaP6
namespace Go.Proofs.Ytfccghfcilccfaa
open Go.RowKit Go.Silo

theorem takeErr_wide {x : SlotsD} (hx : SlotsOk x) {k : Nat} (hk : 12 < k) : takeErr x k [] ≠ 0 := by
  unfold takeErr
  have h1 : (cands x []).length ≤ x.live.length := candTo_len _ _ _
  have h2 := hx.most
  rw [if_pos (by omega)]
  decide
theorem fitL_row {x : SlotsD} {k m : Nat} {l : List Slot} (h : l ∈ fitL x k m) : l.length ≤ k := by
  unfold fitL at h
  obtain ⟨i, _, rfl⟩ := List.mem_map.1 h
  unfold takeL chosen
  rw [List.length_map]
  exact List.length_take_le _ _
theorem flat_len {α : Type} : ∀ (L : List (List α)) (_ : ∀ l ∈ L, l.length ≤ 14), L.flatten.length ≤ 14 * L.length
  | [], _ => by simp
  | l :: L, h => by
    have h1 := h l (List.mem_cons_self ..)
    have h2 := flat_len L (fun l hl => h l (List.mem_cons_of_mem _ hl))
    simp only [List.flatten_cons, List.length_append, List.length_cons]
    omega
theorem flat_take {α : Type} {L : List (List α)} (h : ∀ l ∈ L, l.length ≤ 14) (a : Nat) : (L.take a).flatten.length ≤ 14 * a := by
  have h1 := flat_len (L.take a) (fun l hl => h l (List.mem_of_mem_take hl))
  have h2 : (L.take a).length ≤ a := List.length_take_le _ _
  have := Nat.mul_le_mul_left 14 h2
  omega
theorem flat_snoc {α : Type} {L : List (List α)} {a : Nat} {R : List α} (h : L[a]? = some R) : (L.take (a + 1)).flatten = (L.take a).flatten ++ R := by
  rw [List.take_add_one, h]
  simp
/-- What lies behind in lists without doubles was not there ahead. -/
theorem flat_fresh {L : List (List Slot)} {a b : Nat} {R : List Slot} (hn : L.flatten.Nodup) (h : L[a]? = some R) (hb : b < R.length) : R.getD b default ∉ (L.take a).flatten ++ R.take b := by
  have hL : L.flatten = (L.take a).flatten ++ R ++ (L.drop (a + 1)).flatten := by
    have := List.take_append_drop (a + 1) L
    rw [← flat_snoc h, ← List.flatten_append, this]
  rw [hL] at hn
  have h1 := (List.nodup_append.1 hn).1
  have hR : R = R.take b ++ R.getD b default :: R.drop (b + 1) := by
    rw [List.getD_eq_getElem?_getD, List.getElem?_eq_getElem hb, Option.getD_some, ← List.drop_eq_getElem_cons hb, List.take_append_drop]
  rw [hR, ← List.append_assoc] at h1
  intro hm
  exact (List.nodup_append.1 h1).2.2 _ hm _ (List.mem_cons_self ..) rfl
/-- What Text answers to a text of so many full stripes, where so many go in. -/
def FitsAs (N kk : Nat) (r : List (List Slot) × SlotsD × Int) : Prop := (kk ≤ N → r.2.2 = 0 ∧ r.1.length = kk ∧ r.1.flatten.Nodup ∧ ∀ l ∈ r.1, l.length ≤ 14) ∧ (N < kk → r.2.2 ≠ 0 ∧ r.1 = [])
theorem fits_as {s : Shape} {x : SlotsD} {kk k : Nat} (hs : shapeOk s = true) (hx : SlotsOk x) (hw : 0 < s.K * s.size) (hn : (kk : Int) * (s.K * s.size) ≤ 2000) (hk : s.K + s.M = k) (hk1 : 1 ≤ k) : FitsAs (mostX x k 2000) kk (textR s x ((kk : Int) * (s.K * s.size))) := by
  have h0 : 0 ≤ (kk : Int) * (s.K * s.size) := Int.mul_nonneg (by omega) (by omega)
  have hkk : (s.K + s.M).toNat = k := by omega
  have hle : kk ≤ 2000 := by
    have h1 : (kk : Int) * 1 ≤ (kk : Int) * (s.K * s.size) := Int.mul_le_mul_of_nonneg_left (by omega) (by omega)
    omega
  have hmay : shapeOk s = true ∧ slotsOkB x = true ∧ 0 ≤ (kk : Int) * (s.K * s.size) ∧ (kk : Int) * (s.K * s.size) ≤ 2000 := ⟨hs, slotsOkB_true hx, h0, hn⟩
  have hmany := manyX_mul hw kk
  by_cases hz : kk = 0
  · have hl : layR x (s.K + s.M).toNat (manyX s ((kk : Int) * (s.K * s.size))) = ([], 0) := by rw [hmany, hz]; rfl
    rw [textR_ok hmay (by rw [hl]), hl]
    exact ⟨fun _ => ⟨rfl, hz.symm, by simp, fun l hl => by cases hl⟩, fun h => by omega⟩
  · by_cases hk12 : 12 < k
    · have hl : layR x (s.K + s.M).toNat (manyX s ((kk : Int) * (s.K * s.size))) = ([], 1) := by rw [hmany, hkk]; unfold layR; rw [if_neg hz, if_pos hk12]
      rw [textR_err hmay (by rw [hl]; decide), hl]
      refine ⟨fun h => ?_, fun _ => ⟨by show (1 : Int) ≠ 0; decide, rfl⟩⟩
      have h1 := (mostX_iff hle).2 h
      have h2 : firstErr x k 1 = 0 := firstErr_le (by omega) h1
      rw [firstErr_one] at h2
      exact absurd h2 (takeErr_wide hx hk12)
    · by_cases hf : firstErr x k kk = 0
      · have hl := layR_ok hz (by omega) hf
        rw [textR_ok hmay (by rw [hmany, hkk, hl]), hmany, hkk, hl]
        have hN := (mostX_iff hle).1 hf
        exact ⟨fun _ => ⟨rfl, fitL_len _ _ _, fit_nodup hx hf, fun l hl => by have := fitL_row hl; omega⟩, fun h => by omega⟩
      · have hl : layR x (s.K + s.M).toNat (manyX s ((kk : Int) * (s.K * s.size))) = ([], firstErr x k kk) := by rw [hmany, hkk]; unfold layR; rw [if_neg hz, if_neg hk12, if_neg hf]
        rw [textR_err hmay (by rw [hl]; exact hf), hl]
        refine ⟨fun h => absurd ((mostX_iff hle).2 h) hf, fun _ => ⟨hf, rfl⟩⟩
end Go.Proofs.Ytfccghfcilccfaa
