/- The slots of a text's stripes: no slot is told twice; how many stripes go in. In plain. -/
import Derived.Test.YtfccghfcilccfaaR4
import Derived.Test.YtfccghfcilccfaaP1
namespace Go.Proofs.Ytfccghfcilccfaa
open Go.RowKit Go.Silo

theorem head_not_tail {l : List Int} (h : Rising l) : l.getD 0 0 ∉ l.tail := by
  intro hm
  have hp := rising_lt h
  cases l with
  | nil => cases hm
  | cons a l =>
    have := (List.pairwise_cons.1 hp).1 _ hm
    simp at this
theorem takeX_get (x : SlotsD) (n k : Nat) : (takeX x n []).free[k]? = if (k : Int) ∈ chosen x n [] then x.free[k]?.map List.tail else x.free[k]? := backX_get x n 0 k
theorem stepX_ok {x : SlotsD} (h : SlotsOk x) (k : Nat) : SlotsOk (stepX x k) := by
  unfold stepX
  split
  · exact backX_ok h k 0
  · exact h
theorem turnsX_ok {x : SlotsD} (h : SlotsOk x) (k : Nat) : ∀ j, SlotsOk (turnsX x k j)
  | 0 => h
  | j + 1 => stepX_ok (turnsX_ok h k j) k
theorem step_sub {x : SlotsD} {k i : Nat} {p : Int} (h : p ∈ (stepX x k).free.getD i []) : p ∈ x.free.getD i [] := by
  unfold stepX at h
  split at h
  · rw [List.getD_eq_getElem?_getD, takeX_get] at h
    rw [List.getD_eq_getElem?_getD]
    split at h
    · cases hx : x.free[i]? with
      | none => rw [hx] at h; exact h
      | some m => rw [hx] at h; exact List.mem_of_mem_tail h
    · exact h
  · exact h
theorem turns_sub {x : SlotsD} {k i : Nat} {p : Int} {a : Nat} : ∀ {b : Nat}, a ≤ b → p ∈ (turnsX x k b).free.getD i [] → p ∈ (turnsX x k a).free.getD i []
  | 0, h, hp => by obtain rfl : a = 0 := by omega
                   exact hp
  | b + 1, h, hp => by
    rcases Nat.lt_or_ge b a with hlt | hge
    · obtain rfl : a = b + 1 := by omega
      exact hp
    · exact turns_sub hge (step_sub hp)
theorem taken {x : SlotsD} (hx : SlotsOk x) {k : Nat} {s : Slot} (he : takeErr x k [] = 0) (hs : s ∈ takeL x k []) :
    s.pos ∈ x.free.getD s.disk.toNat [] ∧ s.pos ∉ (stepX x k).free.getD s.disk.toNat [] := by
  unfold takeL at hs
  obtain ⟨d, hd, rfl⟩ := List.mem_map.1 hs
  obtain ⟨h0, h1, h2⟩ := chosen_mem hd
  unfold room at h2
  have hlt : d.toNat < x.free.length := by rw [hx.same]; omega
  have hrow := some_getD (d := []) hlt
  show (x.free.getD d.toNat []).getD 0 0 ∈ _ ∧ (x.free.getD d.toNat []).getD 0 0 ∉ _
  refine ⟨?_, ?_⟩
  · show (x.free.getD d.toNat []).getD 0 0 ∈ x.free.getD d.toNat []
    cases hl : x.free.getD d.toNat [] with
    | nil => rw [hl] at h2; simp at h2
    | cons a l => simp
  · show (x.free.getD d.toNat []).getD 0 0 ∉ (stepX x k).free.getD d.toNat []
    unfold stepX
    rw [if_pos he, List.getD_eq_getElem?_getD (l := (takeX x k []).free), takeX_get, if_pos (by rw [show ((d.toNat : Nat) : Int) = d by omega]; exact hd), hrow]
    exact head_not_tail (hx.free _ (List.mem_of_getElem? hrow))
theorem takeL_nodup (x : SlotsD) (k : Nat) : (takeL x k []).Nodup := by
  unfold takeL
  refine List.Pairwise.map _ (fun a b h e => h ?_) (chosen_nodup x k [])
  unfold slotOf at e
  injection e
theorem fit_mem {x : SlotsD} {k m : Nat} {s : Slot} (h : s ∈ (fitL x k m).flatten) : ∃ i, i < m ∧ s ∈ takeL (turnsX x k i) k [] := by
  obtain ⟨l, hl, hs⟩ := List.mem_flatten.1 h
  unfold fitL at hl
  obtain ⟨i, hi, rfl⟩ := List.mem_map.1 hl
  exact ⟨i, by simpa using hi, hs⟩
theorem firstErr_pred {x : SlotsD} {k m : Nat} (h : firstErr x k (m + 1) = 0) : firstErr x k m = 0 ∧ takeErr (turnsX x k m) k [] = 0 := by
  have h2 := firstErr_ok h m (by omega)
  unfold firstErr at h
  by_cases h0 : firstErr x k m = 0
  · exact ⟨h0, h2⟩
  · rw [if_neg h0] at h; exact absurd h h0
theorem fit_nodup {x : SlotsD} (hx : SlotsOk x) {k : Nat} : ∀ {m : Nat}, firstErr x k m = 0 → (fitL x k m).flatten.Nodup
  | 0, _ => by simp [fitL]
  | m + 1, h => by
    obtain ⟨h1, h2⟩ := firstErr_pred h
    rw [fitL_succ, List.flatten_append]
    refine List.nodup_append.2 ⟨fit_nodup hx h1, by simpa using takeL_nodup _ _, ?_⟩
    rintro a ha b hb rfl
    obtain ⟨i, hi, hs⟩ := fit_mem ha
    have hb' : a ∈ takeL (turnsX x k m) k [] := by simpa using hb
    have t1 := (taken (turnsX_ok hx k i) (firstErr_ok h1 i hi) hs).2
    have t2 := (taken (turnsX_ok hx k m) h2 hb').1
    exact t1 (turns_sub (a := i + 1) (b := m) (by omega) t2)
theorem firstErr_le {x : SlotsD} {k a : Nat} : ∀ {b : Nat}, a ≤ b → firstErr x k b = 0 → firstErr x k a = 0
  | 0, h, hb => by obtain rfl : a = 0 := by omega
                   exact hb
  | b + 1, h, hb => by
    rcases Nat.lt_or_ge b a with hlt | hge
    · obtain rfl : a = b + 1 := by omega
      exact hb
    · exact firstErr_le hge (firstErr_pred hb).1
/-- How many stripes go in, of so many at most. -/
def mostX (x : SlotsD) (k : Nat) : Nat → Nat
  | 0 => 0
  | m + 1 => if firstErr x k (m + 1) = 0 then m + 1 else mostX x k m
theorem mostX_le (x : SlotsD) (k : Nat) : ∀ m, mostX x k m ≤ m
  | 0 => Nat.le_refl _
  | m + 1 => by unfold mostX; split; exact Nat.le_refl _; exact Nat.le_succ_of_le (mostX_le x k m)
theorem mostX_ok (x : SlotsD) (k : Nat) : ∀ m, firstErr x k (mostX x k m) = 0
  | 0 => rfl
  | m + 1 => by unfold mostX; split; assumption; exact mostX_ok x k m
theorem mostX_iff {x : SlotsD} {k j : Nat} : ∀ {m : Nat}, j ≤ m → (firstErr x k j = 0 ↔ j ≤ mostX x k m)
  | 0, h => by obtain rfl : j = 0 := by omega
               exact ⟨fun _ => Nat.zero_le _, fun _ => rfl⟩
  | m + 1, h => by
    constructor
    · intro hj
      unfold mostX
      split
      · exact h
      · rename_i hn
        rcases Nat.lt_or_ge m j with hlt | hge
        · obtain rfl : j = m + 1 := by omega
          exact absurd hj hn
        · exact (mostX_iff hge).1 hj
    · intro hj
      exact firstErr_le hj (mostX_ok x k (m + 1))
/-- The rounds end at the first error or at the bound. -/
theorem mostX_end {x : SlotsD} {k j m : Nat} (hj : j ≤ m) (h : firstErr x k j = 0) (he : j = m ∨ takeErr (turnsX x k j) k [] ≠ 0) : mostX x k m = j := by
  have h1 := (mostX_iff hj).1 h
  rcases he with rfl | he
  · have := mostX_le x k j; omega
  · rcases Nat.lt_or_ge j (mostX x k m) with hlt | hge
    · exact absurd (firstErr_pred (firstErr_le (a := j + 1) hlt (mostX_ok x k m))).2 he
    · omega
end Go.Proofs.Ytfccghfcilccfaa
