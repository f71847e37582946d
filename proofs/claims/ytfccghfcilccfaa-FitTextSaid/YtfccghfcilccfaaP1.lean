/- Slots that are taken and given back are as they were: in plain. -/
import Derived.Test.YtfccghfcilccfaaG0
import Derived.Test.YtfccghfcilccfaaS4
namespace Go.Proofs.Ytfccghfcilccfaa
open Go.RowKit Go.Silo

theorem getD_of_some {α : Type} {l : List α} {k : Nat} {d x : α} (h : l[k]? = some x) : l.getD k d = x := by rw [List.getD_eq_getElem?_getD, h]; rfl
theorem some_getD {α : Type} {l : List α} {k : Nat} {d : α} (h : k < l.length) : l[k]? = some (l.getD k d) := by rw [List.getD_eq_getElem?_getD, List.getElem?_eq_getElem h]; rfl
theorem tail_getD (l : List Int) (j : Nat) : l.tail.getD j 0 = l.getD (j + 1) 0 := by cases l <;> simp
theorem rising_tail {l : List Int} (h : Rising l) : Rising l.tail := by
  intro j hj
  have hj' : j + 1 < l.length := by simp at hj; omega
  have h1 := h (j + 1) hj'
  refine ⟨?_, ?_, fun h0 => ?_⟩
  · rw [tail_getD]; exact h1.1
  · rw [tail_getD]; exact h1.2.1
  · rw [tail_getD, tail_getD]
    have := h1.2.2 (by omega)
    rw [show j - 1 + 1 = j + 1 - 1 by omega]; exact this
theorem tails_get {ds : List Int} {f : List (List Int)} (hnd : ds.Nodup) (h0 : ∀ e ∈ ds, 0 ≤ e) (k : Nat) :
    (ds.foldl tailAt f)[k]? = if (k : Int) ∈ ds then f[k]?.map List.tail else f[k]? := by
  induction ds generalizing f with
  | nil => simp
  | cons e ds ih =>
    rw [List.foldl_cons, ih (List.nodup_cons.1 hnd).2 (fun a ha => h0 a (by simp [ha]))]
    have he := h0 e (by simp)
    have hne := (List.nodup_cons.1 hnd).1
    by_cases hk : (k : Int) = e
    · subst hk
      rw [if_neg hne, if_pos (by simp)]
      simp only [tailAt, Int.toNat_natCast]
      rcases Nat.lt_or_ge k f.length with h | h
      · rw [List.getElem?_set_self h, some_getD (d := []) h]; rfl
      · rw [List.getElem?_eq_none (by simpa using h), List.getElem?_eq_none h]; rfl
    · have h1 : (tailAt f e)[k]? = f[k]? := by
        unfold tailAt
        rw [List.getElem?_set_ne (by omega)]
      rw [h1]
      have h2 : ((k : Int) ∈ e :: ds) ↔ ((k : Int) ∈ ds) := by simp [hk]
      simp only [h2]

/-- The slots behind a taking of n, the first i given back. -/
def backX (x : SlotsD) (n i : Nat) : SlotsD := ⟨x.live, ((chosen x n []).drop i).foldl tailAt x.free⟩
theorem backX_zero (x : SlotsD) (n : Nat) : backX x n 0 = takeX x n [] := rfl
theorem backX_all {x : SlotsD} {n : Nat} (h : takeErr x n [] = 0) : backX x n n = x := by
  unfold backX
  rw [List.drop_eq_nil_of_le (by rw [chosen_len h]; exact Nat.le_refl _)]
  rfl
theorem chosen_drop (x : SlotsD) (n i : Nat) : ((chosen x n []).drop i).Nodup ∧ ∀ e ∈ (chosen x n []).drop i, 0 ≤ e :=
  ⟨List.Nodup.sublist (List.drop_sublist _ _) (chosen_nodup x n []), fun _ he => (chosen_mem (List.mem_of_mem_drop he)).1⟩
theorem backX_get (x : SlotsD) (n i k : Nat) : (backX x n i).free[k]? = if (k : Int) ∈ (chosen x n []).drop i then x.free[k]?.map List.tail else x.free[k]? :=
  tails_get (chosen_drop x n i).1 (chosen_drop x n i).2 k
theorem backX_ok {x : SlotsD} (h : SlotsOk x) (n i : Nat) : SlotsOk (backX x n i) := by
  refine ⟨h.one, h.most, ?_, fun l hl => ?_⟩
  · show (((chosen x n []).drop i).foldl tailAt x.free).length = x.live.length
    rw [tails_length]; exact h.same
  · obtain ⟨k, hk⟩ := List.mem_iff_getElem?.1 hl
    rw [backX_get] at hk
    split at hk
    · cases hx : x.free[k]? with
      | none => rw [hx] at hk; cases hk
      | some m =>
        rw [hx] at hk
        injection hk with hk
        subst hk
        exact rising_tail (h.free _ (List.mem_of_getElem? hx))
    · exact h.free _ (List.mem_of_getElem? hk)

theorem insAt_zero (a : Int) (l : List Int) : insAt 0 a l = a :: l := rfl
theorem back_give {x : SlotsD} {n i : Nat} {d : Int} (h : SlotsOk x) (hd : (chosen x n [])[i]? = some d) : giveR (backX x n i) d (slotOf x d).pos = (backX x n (i + 1), 0) := by
  obtain ⟨d0, d1, d2⟩ := chosen_mem (List.mem_of_getElem? hd)
  obtain ⟨k, rfl⟩ := Int.eq_ofNat_of_zero_le d0
  have hk : k < x.free.length := by have := h.same; omega
  have hi : i < (chosen x n []).length := (List.getElem?_eq_some_iff.1 hd).1
  have hdrop : (chosen x n []).drop i = (k : Int) :: (chosen x n []).drop (i + 1) := by
    rw [List.drop_eq_getElem_cons hi]
    congr 1
    exact (List.getElem?_eq_some_iff.1 hd).2
  have hnot : (k : Int) ∉ (chosen x n []).drop (i + 1) := by
    have := (chosen_drop x n i).1
    rw [hdrop] at this
    exact (List.nodup_cons.1 this).1
  have hr : Rising (x.free.getD k []) := h.free _ (getD_mem hk)
  have hget : x.free[k]? = some (x.free.getD k []) := some_getD hk
  have hroom : 0 < (x.free.getD k []).length := by unfold room at d2; simpa using d2
  have hslot : (slotOf x (k : Int)).pos = (x.free.getD k []).getD 0 0 := rfl
  rw [hslot]
  generalize x.free.getD k [] = l at *
  obtain ⟨a, t, rfl⟩ : ∃ a t, l = a :: t := by cases l with
    | nil => simp at hroom
    | cons a t => exact ⟨a, t, rfl⟩
  have ha := hr 0 (by simp)
  have hlt := rising_lt hr
  rw [List.pairwise_cons] at hlt
  have hb : (backX x n i).free.getD k [] = t := by
    refine getD_of_some ?_
    rw [backX_get, hget, if_pos (by rw [hdrop]; simp)]
    rfl
  have hc : t.countP (· < a) = 0 := List.countP_eq_zero.2 (fun b hb' => by have := hlt.1 b hb'; simp; omega)
  have hn : ¬ t.contains a = true := by
    intro hh
    have := hlt.1 a (by simpa using hh)
    omega
  have e0 : (a :: t).getD 0 0 = a := rfl
  unfold Rat at ha
  rw [e0] at ha ⊢
  rw [giveR_ok ⟨slotsOkB_true (backX_ok h n i), by omega, d1, by omega, by omega⟩ (by rw [show ((k : Nat) : Int).toNat = k from rfl, hb]; exact hn)]
  rw [show ((k : Nat) : Int).toNat = k from rfl]
  unfold giveX
  rw [hb, hc, insAt_zero]
  congr 1
  refine SlotsD.ext_iff'.2 ⟨rfl, ?_⟩
  refine List.ext_getElem? (fun j => ?_)
  show ((backX x n i).free.set k (a :: t))[j]? = _
  rw [backX_get x n (i + 1)]
  have hbl : (backX x n i).free.length = x.free.length := tails_length _ _
  by_cases hj : j = k
  · subst hj
    rw [List.getElem?_set_self (by omega), if_neg hnot, hget]
  · rw [List.getElem?_set_ne (Ne.symm hj), backX_get, hdrop]
    have : ((j : Int) ∈ (k : Int) :: (chosen x n []).drop (i + 1)) ↔ ((j : Int) ∈ (chosen x n []).drop (i + 1)) := by
      simp; omega
    simp only [this]

theorem chosen_live {x : SlotsD} {n : Nat} {not : List Int} {d : Int} (h : d ∈ chosen x n not) : x.live.getD d.toNat false = true := by
  unfold chosen at h
  have h1 := (sortBy_perm _ _).mem_iff.1 (List.mem_of_mem_take h)
  unfold withRoom at h1
  obtain ⟨h2, _⟩ := List.mem_filter.1 h1
  unfold cands candTo at h2
  have := (List.mem_filter.1 h2).2
  simp at this
  simp [this.1]

theorem count_lt_succ {ds : List Int} (hnd : ds.Nodup) (k : Nat) : ds.countP (· < ((k + 1 : Nat) : Int)) = ds.countP (· < (k : Int)) + if (k : Int) ∈ ds then 1 else 0 := by
  induction ds with
  | nil => simp
  | cons e ds ih =>
    have h1 := ih (List.nodup_cons.1 hnd).2
    have h2 := (List.nodup_cons.1 hnd).1
    rw [List.countP_cons, List.countP_cons, h1]
    by_cases hk : (k : Int) = e
    · subst hk
      rw [if_neg h2]
      simp
      omega
    · have h3 : ((k : Int) ∈ e :: ds) ↔ ((k : Int) ∈ ds) := by simp [hk]
      simp only [h3]
      have h4 : (e < ((k + 1 : Nat) : Int)) ↔ (e < (k : Int)) := by omega
      simp only [h4]
      omega

theorem back_cnt {x : SlotsD} {n : Nat} (h : SlotsOk x) : ∀ k, k ≤ x.live.length → cnt x k = cnt (takeX x n []) k + (chosen x n []).countP (· < (k : Int)) := by
  intro k
  induction k with
  | zero =>
    intro _
    have : (chosen x n []).countP (· < ((0 : Nat) : Int)) = 0 := List.countP_eq_zero.2 (fun d hd => by have := (chosen_mem hd).1; simp; omega)
    rw [this]; rfl
  | succ k ih =>
    intro hk
    have h1 := ih (by omega)
    rw [count_lt_succ (chosen_nodup x n []), cnt, cnt, h1]
    have hlive : (takeX x n []).live = x.live := rfl
    have hkf : k < x.free.length := by have := h.same; omega
    have hg : (takeX x n []).free.getD k [] = if (k : Int) ∈ chosen x n [] then (x.free.getD k []).tail else x.free.getD k [] := by
      have h2 := backX_get x n 0 k
      rw [backX_zero, List.drop_zero, some_getD (d := []) hkf] at h2
      refine getD_of_some (h2.trans ?_)
      split <;> rfl
    rw [hlive, hg]
    by_cases hm : (k : Int) ∈ chosen x n []
    · have hl := chosen_live hm
      rw [show ((k : Nat) : Int).toNat = k from rfl] at hl
      have hr := (chosen_mem hm).2.2
      unfold room at hr
      rw [show ((k : Nat) : Int).toNat = k from rfl] at hr
      rw [if_pos hm, if_pos hm, hl]
      generalize x.free.getD k [] = l at *
      simp only [if_true, List.length_tail]
      omega
    · rw [if_neg hm, if_neg hm]
      split <;> omega
theorem back_count {x : SlotsD} {n : Nat} (h : SlotsOk x) (he : takeErr x n [] = 0) : cnt x x.free.length = cnt (takeX x n []) (takeX x n []).free.length + n := by
  have h1 := back_cnt (n := n) h x.live.length (Nat.le_refl _)
  have h2 : (chosen x n []).countP (· < (x.live.length : Int)) = n := by
    rw [List.countP_eq_length.2 (fun d hd => by have := (chosen_mem hd).2.1; simpa using this)]
    exact chosen_len he
  have h3 : (takeX x n []).free.length = x.free.length := tails_length _ _
  rw [h3, h.same, h1, h2]
end Go.Proofs.Ytfccghfcilccfaa
