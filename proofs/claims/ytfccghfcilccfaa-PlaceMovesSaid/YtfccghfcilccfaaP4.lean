/- A stripe that lacks pieces, moved as it needs, lacks none, and lies on unlike disks: in plain. -/
import Derived.Test.YtfccghfcilccfaaF2
import Derived.Test.YtfccghfcilccfaaP1
namespace Go.Proofs.Ytfccghfcilccfaa
open Go.RowKit Go.Silo

theorem apartB_of {l : List Slot} (h : ∀ i j, j < i → i < l.length → (l.getD i default).disk ≠ -1 → (l.getD j default).disk ≠ (l.getD i default).disk) : apartB l = true :=
  apartB_true fun i hi => by
    unfold apartAt
    by_cases h1 : (l.getD i default).disk = -1
    · simp only [Bool.or_eq_true, beq_iff_eq]; exact .inl h1
    · simp only [Bool.or_eq_true, Bool.not_eq_true']
      refine .inr ?_
      rw [List.any_eq_false]
      intro p hp
      obtain ⟨j, hj⟩ := List.mem_iff_getElem?.1 hp
      rw [List.getElem?_take] at hj
      split at hj
      · next hji =>
        have h2 := h i j hji hi h1
        rw [getD_of_some hj] at h2
        simpa [sameDisk] using h2
      · cases hj
theorem apartB_at {l : List Slot} (h : apartB l = true) {i j : Nat} (hji : j < i) (hi : i < l.length) (h1 : (l.getD i default).disk ≠ -1) : (l.getD j default).disk ≠ (l.getD i default).disk := by
  have h2 := List.all_eq_true.1 h i (List.mem_range.2 hi)
  unfold apartAt at h2
  simp only [Bool.or_eq_true, Bool.not_eq_true', beq_iff_eq] at h2
  rcases h2 with h2 | h2
  · exact absurd h2 h1
  · rw [List.any_eq_false] at h2
    have h3 := h2 (l.getD j default) (List.mem_iff_getElem?.2 ⟨j, by rw [List.getElem?_take, if_pos hji]; exact some_getD (by omega)⟩)
    simpa [sameDisk] using h3
theorem badN_map (gl : List Bool) (n : Nat) : badN gl n = ((List.range n).filter fun i => !gl.getD i false).map fun i : Nat => (i : Int) := rfl
/-- The bad pieces' numbers. -/
def badF (gl : List Bool) (n : Nat) : List Nat := (List.range n).filter fun i => !gl.getD i false
theorem badF_lt (gl : List Bool) (n : Nat) : (badF gl n).Pairwise (· < ·) := List.Pairwise.filter _ List.pairwise_lt_range
theorem badF_mem {gl : List Bool} {n q : Nat} : q ∈ badF gl n ↔ q < n ∧ gl.getD q false = false := by
  unfold badF; rw [List.mem_filter, List.mem_range]; simp
theorem badN_getD {gl : List Bool} {n k : Nat} (hk : k < (badF gl n).length) : (badN gl n).getD k 0 = (((badF gl n).getD k 0 : Nat) : Int) := by
  rw [badN_map, List.getD_eq_getElem?_getD, List.getElem?_map, List.getD_eq_getElem?_getD]
  show (((badF gl n)[k]?).map _).getD 0 = _
  rw [List.getElem?_eq_getElem hk]; rfl
theorem badN_length (gl : List Bool) (n : Nat) : (badN gl n).length = (badF gl n).length := by rw [badN_map, List.length_map]; rfl
theorem badF_get {gl : List Bool} {n k : Nat} (hk : k < (badF gl n).length) : (badF gl n).getD k 0 < n ∧ gl.getD ((badF gl n).getD k 0) false = false :=
  badF_mem.1 (List.mem_iff_getElem?.2 ⟨k, some_getD hk⟩)
theorem badF_rise {gl : List Bool} {n i j : Nat} (hji : j < i) (hi : i < (badF gl n).length) : (badF gl n).getD j 0 < (badF gl n).getD i 0 := by
  have h := List.pairwise_iff_getElem.1 (badF_lt gl n) j i (by omega) hi hji
  rw [List.getD_eq_getElem?_getD, List.getD_eq_getElem?_getD, List.getElem?_eq_getElem (show j < _ by omega), List.getElem?_eq_getElem hi]
  exact h
theorem getD_set_ne {α : Type} {l : List α} {i j : Nat} {a d : α} (h : i ≠ j) : (l.set i a).getD j d = l.getD j d := by rw [List.getD_eq_getElem?_getD, List.getElem?_set_ne h, ← List.getD_eq_getElem?_getD]
theorem getD_set_self {α : Type} {l : List α} {i : Nat} {a d : α} (h : i < l.length) : (l.set i a).getD i d = a := by rw [List.getD_eq_getElem?_getD, List.getElem?_set_self h]; rfl

section
variable {x : Stripe} {gl : List Bool} {n : Nat} {tz : List Slot}
theorem mov_succ {k : Nat} (hk : k < (badF gl n).length) : movP x ⟨x.id, badN gl n, tz⟩ (k + 1) = (movP x ⟨x.id, badN gl n, tz⟩ k).set ((badF gl n).getD k 0) (tz.getD k default) := by
  show (movP x _ k).set ((badN gl n).getD k 0).toNat _ = _
  rw [badN_getD hk]; rfl
theorem mov_other {q : Nat} : ∀ k, k ≤ (badF gl n).length → (∀ j, j < k → (badF gl n).getD j 0 ≠ q) → (movP x ⟨x.id, badN gl n, tz⟩ k).getD q default = x.place.getD q default
  | 0, _, _ => rfl
  | k + 1, hk, h => by
    rw [mov_succ (by omega), getD_set_ne (h k (by omega))]
    exact mov_other k (by omega) (fun j hj => h j (by omega))
theorem mov_at {j : Nat} (hn : x.place.length = n) : ∀ k, k ≤ (badF gl n).length → j < k → (movP x ⟨x.id, badN gl n, tz⟩ k).getD ((badF gl n).getD j 0) default = tz.getD j default
  | k + 1, hk, h => by
    rw [mov_succ (by omega)]
    by_cases hjk : j = k
    · subst hjk
      exact getD_set_self (by rw [movP_len, hn]; exact (badF_get (by omega)).1)
    · rw [getD_set_ne (by have := badF_rise (gl := gl) (n := n) (show j < k by omega) (by omega); omega)]
      exact mov_at hn k (by omega) (by omega)
end
theorem chosen_not {x : SlotsD} {n : Nat} {not : List Int} {d : Int} (h : d ∈ chosen x n not) : d ∉ not := by
  unfold chosen at h
  have h1 := (sortBy_perm _ _).mem_iff.1 (List.mem_of_mem_take h)
  unfold withRoom at h1
  obtain ⟨h2, _⟩ := List.mem_filter.1 h1
  unfold cands candTo at h2
  have := (List.mem_filter.1 h2).2
  simp at this
  exact this.2
theorem takeX_ok {x : SlotsD} (h : SlotsOk x) (n : Nat) (not : List Int) : SlotsOk (takeX x n not) := by
  refine ⟨h.one, h.most, ?_, fun l hl => ?_⟩
  · show ((chosen x n not).foldl tailAt x.free).length = x.live.length
    rw [tails_length]; exact h.same
  · obtain ⟨k, hk⟩ := List.mem_iff_getElem?.1 hl
    have hk2 : ((chosen x n not).foldl tailAt x.free)[k]? = some l := hk
    rw [tails_get (chosen_nodup x n not) (fun e he => (chosen_mem he).1)] at hk2
    split at hk2
    · cases hx : x.free[k]? with
      | none => rw [hx] at hk2; cases hk2
      | some m =>
        rw [hx] at hk2
        injection hk2 with hk2
        subst hk2
        exact rising_tail (h.free _ (List.mem_of_getElem? hx))
    · exact h.free _ (List.mem_of_getElem? hk2)
theorem slotOf_ok {y : SlotsD} (h : SlotsOk y) {n : Nat} {not : List Int} {d : Int} (hd : d ∈ chosen y n not) : slotOk (slotOf y d) = true ∧ 0 ≤ (slotOf y d).disk := by
  obtain ⟨h1, h2, h3⟩ := chosen_mem hd
  have hm := h.most
  have hs := h.same
  unfold room at h3
  have hlt : d.toNat < y.free.length := by omega
  have hr := h.free (y.free.getD d.toNat []) (List.mem_iff_getElem?.2 ⟨_, some_getD hlt⟩) 0 (by omega)
  unfold Rat at hr
  refine ⟨?_, h1⟩
  unfold slotOk slotOf
  exact decide_eq_true (.inl ⟨h1, by show d ≤ 11; omega, hr.1, hr.2.1⟩)

theorem needX_ok {s : Shape} {x : Stripe} {y : SlotsD} {gl : List Bool} (he : (needX s x y gl).2.2 = 0) :
    takeErr y (badN gl gl.length).length (notN x gl gl.length) = 0 ∧ needX s x y gl = (⟨x.id, badN gl gl.length, takeL y (badN gl gl.length).length (notN x gl gl.length)⟩, takeX y (badN gl gl.length).length (notN x gl gl.length), 0) := by
  unfold needX at he ⊢
  by_cases h1 : ((notN x gl gl.length).length : Int) < s.K
  · rw [if_pos h1] at he; cases he
  · rw [if_neg h1] at he ⊢
    by_cases h2 : (badN gl gl.length).length = 0
    · rw [if_pos h2]
      have hb : badN gl gl.length = [] := List.eq_nil_of_length_eq_zero h2
      have hc : chosen y 0 (notN x gl gl.length) = [] := by unfold chosen; rw [List.take_zero]
      rw [hb]
      refine ⟨?_, ?_⟩
      · unfold takeErr; simp
      · rw [List.length_nil]
        unfold takeL takeX
        rw [hc]; rfl
    · rw [if_neg h2] at he ⊢
      by_cases h3 : takeErr y (badN gl gl.length).length (notN x gl gl.length) = 0
      · rw [if_pos h3]; exact ⟨h3, rfl⟩
      · rw [if_neg h3] at he; exact absurd he h3

theorem whole_law {s : Shape} {x : Stripe} {y : SlotsD} {gl : List Bool} (hs : stripeOk s x = true) (hy : SlotsOk y) (hl : gl.length = x.place.length)
    (hm : ∀ q, q < x.place.length → gl.getD q false = true → 0 ≤ (x.place.getD q default).disk) (he : (needX s x y gl).2.2 = 0) :
    movedR s x (needX s x y gl).1 = (movedX x (needX s x y gl).1, freeP x (needX s x y gl).1 (needX s x y gl).1.index.length, 0) ∧ stripeOk s (movedX x (needX s x y gl).1) = true ∧ slotsOkB (needX s x y gl).2.1 = true ∧
    ∀ q, q < x.place.length → 0 ≤ ((movedX x (needX s x y gl).1).place.getD q default).disk ∧ (gl.getD q false = true → (movedX x (needX s x y gl).1).place.getD q default = x.place.getD q default) := by
  obtain ⟨h0, hN⟩ := needX_ok he
  rw [hN]
  clear hN he
  generalize hn : gl.length = n at *
  have hnot : ∀ q, q < n → gl.getD q false = true → (x.place.getD q default).disk ∈ notN x gl n := fun q hq hg => by
    unfold notN
    exact List.mem_map.2 ⟨q, List.mem_filter.2 ⟨List.mem_range.2 hq, hg⟩, rfl⟩
  generalize notN x gl n = nt at *
  have hlen := chosen_len h0
  rw [badN_length] at hlen h0 ⊢
  have hgood : stripeOk s x = true := hs
  unfold stripeOk at hs
  simp only [Bool.and_eq_true] at hs
  obtain ⟨hs1, hs2, hs3⟩ := hs
  have hsl : ∀ q, q < x.place.length → slotOk (x.place.getD q default) = true := fun q hq => by
    have h2 : (x.place.any fun p => !slotOk p) = false := by simpa using hs3
    rw [List.any_eq_false] at h2
    have h3 := h2 (x.place.getD q default) (List.mem_iff_getElem?.2 ⟨q, some_getD hq⟩)
    simpa using h3
  have hto : ∀ j, j < (badF gl n).length → ∃ d, (chosen y (badF gl n).length nt)[j]? = some d ∧ (takeL y (badF gl n).length nt).getD j default = slotOf y d := fun j hj => by
    obtain ⟨d, hd⟩ : ∃ d, (chosen y (badF gl n).length nt)[j]? = some d := ⟨_, List.getElem?_eq_getElem (by omega)⟩
    refine ⟨d, hd, ?_⟩
    unfold takeL
    rw [List.getD_eq_getElem?_getD, List.getElem?_map, hd]; rfl
  have htl : (takeL y (badF gl n).length nt).length = (badF gl n).length := by unfold takeL; rw [List.length_map]; exact hlen
  generalize htoE : takeL y (badF gl n).length nt = tz at *
  -- every place
  have hP : ∀ q, q < n → (gl.getD q false = true ∧ (movP x ⟨x.id, badN gl n, tz⟩ (badF gl n).length).getD q default = x.place.getD q default) ∨
      (gl.getD q false = false ∧ ∃ j d, j < (badF gl n).length ∧ (badF gl n).getD j 0 = q ∧ (chosen y (badF gl n).length nt)[j]? = some d ∧ (movP x ⟨x.id, badN gl n, tz⟩ (badF gl n).length).getD q default = slotOf y d) := fun q hq => by
    cases hg : gl.getD q false with
    | true => exact .inl ⟨rfl, mov_other _ (Nat.le_refl _) (fun j hj e => by have := (badF_get hj).2; rw [e, hg] at this; cases this)⟩
    | false =>
      obtain ⟨j, hj⟩ := List.mem_iff_getElem?.1 (badF_mem.2 ⟨hq, hg⟩)
      have hjl := (List.getElem?_eq_some_iff.1 hj).1
      have hjq : (badF gl n).getD j 0 = q := getD_of_some hj
      obtain ⟨d, hd1, hd2⟩ := hto j hjl
      exact .inr ⟨rfl, j, d, hjl, hjq, hd1, by rw [← hjq, mov_at hl.symm _ (Nat.le_refl _) hjl, hd2]⟩
  have hlenP : (movP x ⟨x.id, badN gl n, tz⟩ (badF gl n).length).length = n := by rw [movP_len]; exact hl.symm
  have hix : (⟨x.id, badN gl n, tz⟩ : Need).index.length = (badF gl n).length := badN_length gl n
  have hap : apartB (movP x ⟨x.id, badN gl n, tz⟩ (badF gl n).length) = true := apartB_of fun i j hji hi hne => by
    rw [hlenP] at hi
    rcases hP i hi with ⟨gi, ei⟩ | ⟨gi, a, d, ha, hai, hda, ei⟩
    · rcases hP j (by omega) with ⟨gj, ej⟩ | ⟨gj, b, d', hb, hbj, hdb, ej⟩
      · rw [ei] at hne
        rw [ei, ej]
        exact apartB_at hs2 hji (by omega) hne
      · rw [ei, ej]
        intro e
        have h1 := chosen_not (List.mem_iff_getElem?.2 ⟨b, hdb⟩)
        have e' : d' = (x.place.getD i default).disk := e
        rw [e'] at h1
        exact h1 (hnot i hi gi)
    · have h1 := chosen_not (List.mem_iff_getElem?.2 ⟨a, hda⟩)
      rcases hP j (by omega) with ⟨gj, ej⟩ | ⟨gj, b, d', hb, hbj, hdb, ej⟩
      · rw [ei, ej]
        intro e
        have e' : (x.place.getD j default).disk = d := e
        rw [← e'] at h1
        exact h1 (hnot j (by omega) gj)
      · rw [ei, ej]
        intro e
        have e' : d' = d := e
        subst e'
        have hab : a = b := by
          have hnd := chosen_nodup y (badF gl n).length nt
          have h2 := (List.getElem?_eq_some_iff.1 hda).1
          have h3 := (List.getElem?_eq_some_iff.1 hdb).1
          have h4 := (List.getElem?_eq_some_iff.1 hda).2
          have h5 := (List.getElem?_eq_some_iff.1 hdb).2
          rcases Nat.lt_trichotomy a b with h | h | h
          · exact absurd (h4.trans h5.symm) (List.pairwise_iff_getElem.1 hnd a b h2 h3 h)
          · exact h
          · exact absurd (h5.trans h4.symm) (List.pairwise_iff_getElem.1 hnd b a h3 h2 h)
        subst hab
        omega
  have hall : ∀ q, q < n → slotOk ((movP x ⟨x.id, badN gl n, tz⟩ (badF gl n).length).getD q default) = true ∧ 0 ≤ ((movP x ⟨x.id, badN gl n, tz⟩ (badF gl n).length).getD q default).disk := fun q hq => by
    rcases hP q hq with ⟨g, e⟩ | ⟨g, j, d, hj, hjq, hd, e⟩
    · rw [e]; exact ⟨hsl q (by omega), hm q (by omega) g⟩
    · rw [e]; exact slotOf_ok hy (List.mem_iff_getElem?.2 ⟨j, hd⟩)
  have hof : ofB x ⟨x.id, badN gl n, tz⟩ = true := ofB_true rfl (by rw [hix, htl]) fun k hk => by
    rw [hix] at hk
    obtain ⟨b1, b2⟩ := badF_get hk
    obtain ⟨d, hd1, hd2⟩ := hto k hk
    obtain ⟨s1, s2⟩ := slotOf_ok hy (List.mem_iff_getElem?.2 ⟨k, hd1⟩)
    unfold ofAt
    show (!(decide ((badN gl n).getD k 0 < 0) || decide ((x.place.length : Int) ≤ (badN gl n).getD k 0) || (decide (0 < k) && decide ((badN gl n).getD k 0 ≤ (badN gl n).getD (k - 1) 0)) || !slotOk (tz.getD k default) || decide ((tz.getD k default).disk = -1))) = true
    rw [badN_getD hk, hd2, s1]
    have h3 : decide ((slotOf y d).disk = -1) = false := decide_eq_false (by omega)
    have h4 : (decide (0 < k) && decide ((((badF gl n).getD k 0 : Nat) : Int) ≤ (badN gl n).getD (k - 1) 0)) = false := by
      rcases Nat.eq_zero_or_pos k with rfl | h0
      · rfl
      · rw [badN_getD (show k - 1 < _ by omega)]
        have := badF_rise (gl := gl) (n := n) (show k - 1 < k by omega) hk
        have h5 : ¬ (((badF gl n).getD k 0 : Nat) : Int) ≤ (((badF gl n).getD (k - 1) 0 : Nat) : Int) := by omega
        rw [decide_eq_false h5, Bool.and_false]
    rw [h3, h4, decide_eq_false (by omega), decide_eq_false (by omega)]; rfl
  refine ⟨?_, ?_, slotsOkB_true (takeX_ok hy _ _), fun q hq => ?_⟩
  · unfold movedR
    rw [if_pos ⟨hgood, hof, by rw [hix]; exact hap⟩]
    show (_, freeP x _ (badN gl n).length, (0 : Int)) = _
    rw [badN_length]
  · unfold stripeOk movedX
    simp only [hix]
    simp only [Bool.and_eq_true, hap]
    refine ⟨⟨?_, ?_⟩, trivial, ?_⟩
    · exact hs1.1
    · have := of_decide_eq_true hs1.2; exact decide_eq_true (by rw [hlenP, hl]; exact this)
    · rw [Bool.not_eq_true', List.any_eq_false]
      intro p hp
      obtain ⟨q, hq⟩ := List.mem_iff_getElem?.1 hp
      have hql := (List.getElem?_eq_some_iff.1 hq).1
      have := (hall q (by omega)).1
      rw [getD_of_some hq] at this
      simp [this]
  · show 0 ≤ ((movP x _ (badN gl n).length).getD q default).disk ∧ (gl.getD q false = true → (movP x _ (badN gl n).length).getD q default = _)
    rw [badN_length]
    refine ⟨(hall q (by omega)).2, fun hg => ?_⟩
    rcases hP q (by omega) with ⟨_, e⟩ | ⟨g, _⟩
    · exact e
    · rw [hg] at g; cases g
end Go.Proofs.Ytfccghfcilccfaa
