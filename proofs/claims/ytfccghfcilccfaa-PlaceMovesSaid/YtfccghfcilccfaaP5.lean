/- What a stripe is behind a need: the program's answer (place.Moved) and the page's are one: in plain. -/
import Derived.Test.YtfccghfcilccfaaP4
import Derived.Test.YtfccghfcilccfaaK6
import Derived.Test.YtfccghfcilccfaaK7
namespace Go.Proofs.Ytfccghfcilccfaa
open Go.RowKit Go.Silo

theorem fit_of (x : Stripe) (nd : Need) (k : Nat) : fitAt x nd k = ofAt x nd k := by
  unfold fitAt ofAt slotOk
  rw [Bool.eq_iff_iff]
  simp only [Bool.and_eq_true, Bool.not_eq_true', Bool.or_eq_false_iff, Bool.and_eq_false_iff, decide_eq_true_eq, decide_eq_false_iff_not, Bool.not_eq_false']
  generalize nd.index.getD k 0 = i
  generalize nd.index.getD (k - 1) 0 = j
  generalize nd.to.getD k default = p
  omega
theorem fits_of {s : Shape} {x : Stripe} {nd : Need} : fitsB s x nd = (ofB x nd && stripeOk s (movedX x nd)) := by
  have hall : (List.range nd.index.length).all (fitAt x nd) = (List.range nd.index.length).all (ofAt x nd) := by
    congr 1; funext k; exact fit_of x nd k
  have hfew : (List.range nd.index.length).all (ofAt x nd) = true → nd.index.length ≤ x.place.length := fun h => by
    have h1 : ∀ j, j < nd.index.length → ofAt x nd j = true := fun j hj => List.all_eq_true.1 h j (List.mem_range.2 hj)
    rcases Nat.eq_zero_or_pos nd.index.length with h0 | h0
    · omega
    · have := ofB_few h1 (k := nd.index.length - 1) (by omega)
      omega
  unfold fitsB ofB
  rw [hall]
  cases h1 : (List.range nd.index.length).all (ofAt x nd) with
  | false => simp
  | true => rw [decide_eq_true (hfew h1)]; simp
theorem all_set {p : Slot → Bool} {l : List Slot} {i : Nat} {a : Slot} (h : ∀ y ∈ l, p y = true) (ha : p a = true) : ∀ y ∈ l.set i a, p y = true := fun y hy => by
  rcases List.mem_or_eq_of_mem_set hy with h' | h'
  · exact h y h'
  · rw [h']; exact ha
theorem movP_ok {x : Stripe} {nd : Need} (hx : ∀ y ∈ x.place, slotOk y = true) (hto : ∀ j, j < nd.index.length → slotOk (nd.to.getD j default) = true) : ∀ k, k ≤ nd.index.length → ∀ y ∈ movP x nd k, slotOk y = true
  | 0, _ => hx
  | k + 1, hk => all_set (movP_ok hx hto k (by omega)) (hto k (by omega))
theorem ofAt_slot {x : Stripe} {nd : Need} {k : Nat} (h : ofAt x nd k = true) : slotOk (nd.to.getD k default) = true := by
  unfold ofAt at h
  simp only [Bool.not_eq_true', Bool.or_eq_false_iff, Bool.not_eq_false'] at h
  exact h.1.2
theorem stripe_places {s : Shape} {x : Stripe} (h : stripeOk s x = true) : ∀ y ∈ x.place, slotOk y = true := fun y hy => by
  unfold stripeOk at h
  simp only [Bool.and_eq_true] at h
  have h2 : (x.place.any fun p => !slotOk p) = false := by simpa using h.2.2
  rw [List.any_eq_false] at h2
  simpa using h2 y hy
theorem moved_ok {s : Shape} {x : Stripe} {nd : Need} (hs : stripeOk s x = true) (ho : ofB x nd = true) : stripeOk s (movedX x nd) = apartB (movP x nd nd.index.length) := by
  have hp := (ofB_parts ho).2
  have hm := movP_ok (x := x) (nd := nd) (stripe_places hs) (fun j hj => ofAt_slot (hp j hj)) nd.index.length (Nat.le_refl _)
  have hany : ((movP x nd nd.index.length).any fun p => !slotOk p) = false := by
    rw [List.any_eq_false]
    intro y hy
    simp [hm y hy]
  unfold stripeOk at hs
  simp only [Bool.and_eq_true] at hs
  unfold stripeOk movedX
  simp only [movP_len, hany]
  rw [hs.1.1.1.1.1.1, hs.1.1.1.1.1.2, hs.1.1.1.1.2, hs.1.1.1.2, hs.1.1.2, hs.1.2]
  simp
theorem mov_keep {x : Stripe} {nd : Need} {q : Nat} : ∀ k, (∀ j, j < k → (nd.index.getD j 0).toNat ≠ q) → (movP x nd k).getD q default = x.place.getD q default
  | 0, _ => rfl
  | k + 1, h => by
    show ((movP x nd k).set _ _).getD q default = _
    rw [getD_set_ne (h k (by omega))]
    exact mov_keep k (fun j hj => h j (by omega))
theorem idx_rise {x : Stripe} {nd : Need} (h : ∀ j, j < nd.index.length → ofAt x nd j = true) : ∀ k j, j < k → k < nd.index.length → nd.index.getD j 0 < nd.index.getD k 0
  | k + 1, j, hj, hk => by
    have h1 := h (k + 1) hk
    unfold ofAt at h1
    simp only [Bool.not_eq_true', Bool.or_eq_false_iff, Bool.and_eq_false_iff, decide_eq_false_iff_not, Nat.add_sub_cancel] at h1
    rcases Nat.lt_or_ge j k with hjk | hjk
    · have := idx_rise h k j hjk (by omega); omega
    · obtain rfl : j = k := by omega
      omega
theorem free_of {x : Stripe} {nd : Need} (hx : ∀ y ∈ x.place, slotOk y = true) (h : ∀ j, j < nd.index.length → ofAt x nd j = true) : ∀ k, k ≤ nd.index.length → freeP x nd k = pfree x nd k
  | 0, _ => rfl
  | k + 1, hk => by
    obtain ⟨i, hi, hil⟩ := ofAt_idx (h k (by omega))
    have hne : ∀ j, j < k → (nd.index.getD j 0).toNat ≠ i := fun j hj => by
      have := idx_rise h k j hj (by omega)
      obtain ⟨i', hi', _⟩ := ofAt_idx (h j (by omega))
      omega
    show freeP x nd k ++ (if ((movP x nd k).getD (nd.index.getD k 0).toNat default).disk = -1 then [] else [(movP x nd k).getD (nd.index.getD k 0).toNat default]) = pfree x nd k ++ (if 0 ≤ (x.place.getD (nd.index.getD k 0).toNat default).disk then [x.place.getD (nd.index.getD k 0).toNat default] else [])
    rw [free_of hx h k (by omega), hi, Int.toNat_natCast, mov_keep k hne]
    have hs := hx (x.place.getD i default) (List.mem_iff_getElem?.2 ⟨i, some_getD hil⟩)
    unfold slotOk at hs
    have hs2 := of_decide_eq_true hs
    by_cases hd : (x.place.getD i default).disk = -1
    · rw [if_pos hd, if_neg (by omega)]
    · rw [if_neg hd, if_pos (by omega)]
/-- The program's answer is the page's. -/
theorem moved_law {s : Shape} {x : Stripe} {nd : Need} : movedR s x nd = if (stripeOk s x && fitsB s x nd) = true then (movedX x nd, pfree x nd nd.index.length, 0) else (noStripe, [], 1) := by
  unfold movedR
  by_cases hs : stripeOk s x = true
  · by_cases ho : ofB x nd = true
    · have hm := moved_ok hs ho
      rw [fits_of, hs, ho, hm]
      by_cases ha : apartB (movP x nd nd.index.length) = true
      · rw [if_pos ⟨rfl, rfl, ha⟩, ha, if_pos (by rfl), free_of (stripe_places hs) (ofB_parts ho).2 _ (Nat.le_refl _)]
      · rw [if_neg (fun h => ha h.2.2), if_neg (by simpa using ha)]
    · rw [if_neg (fun h => ho h.2.1), fits_of, if_neg (by simp [ho])]
  · rw [if_neg (fun h => hs h.1), if_neg (by simp [hs])]
end Go.Proofs.Ytfccghfcilccfaa
