/- A book in plain: may it be? The page's way to say so. No program in sight. -/
import Derived.Test.YtjeecdoffoahkaaQ5r
import Derived.Test.YtjeecdoffoahkaaQ7r
import Derived.Test.YtjeecdoffoahkaaK2r
namespace Go.Proofs.Ytjeecdoffoahkaa
open Go.RowKit Go.Silo

/-- May a book of a shape be? -/
def bookOk (s : Shape) (b : Book) : Bool := shapeOk s && (decide (0 ≤ b.next ∧ b.next ≤ 1073741824) && (stripesOk s b.next b.stripes && (thingsOk s b.stripes b.things && tagsOk b.tags)))
/-- Its lists are no longer than so. -/
structure Few (b : Book) : Prop where
  st : b.stripes.length ≤ 4000
  sl : (slotsTo b.stripes b.stripes.length).length ≤ 1000000
  nm : (namedTo b.things b.things.length).length ≤ 1000000
theorem stripesOk_ids {s : Shape} {nx : Int} {l : List Stripe} (h : stripesOk s nx l = true) : ∀ i j, i < j → j < l.length → (l.getD i default).id < (l.getD j default).id := by
  unfold stripesOk at h
  rw [Bool.and_eq_true] at h
  have h1 := List.all_eq_true.1 h.1
  have step : ∀ j, j + 1 < l.length → (l.getD j default).id < (l.getD (j + 1) default).id := fun j hj => by
    have := h1 (j + 1) (List.mem_range.2 hj)
    unfold stripeAt at this
    simp only [Bool.and_eq_true, Bool.or_eq_true, decide_eq_true_eq] at this
    obtain ⟨_, _, h | h⟩ := this
    · omega
    · exact h
  intro i j hij
  induction j with
  | zero => omega
  | succ j ih =>
    intro hj
    have h2 := step j hj
    rcases Nat.lt_or_ge i j with h3 | h3
    · have := ih h3 (by omega); omega
    · obtain rfl : i = j := by omega
      exact h2
theorem stripesOk_each {s : Shape} {nx : Int} {l : List Stripe} (h : stripesOk s nx l = true) : ∀ k, k < l.length → stripeOk s (l.getD k default) = true ∧ (l.getD k default).id < nx := by
  unfold stripesOk at h
  rw [Bool.and_eq_true] at h
  intro k hk
  have := (List.all_eq_true.1 h.1) k (List.mem_range.2 hk)
  unfold stripeAt at this
  simp only [Bool.and_eq_true, decide_eq_true_eq] at this
  exact ⟨this.1, this.2.1⟩
theorem stripeOk_len {s : Shape} {x : Stripe} (h : stripeOk s x = true) : 1 ≤ x.len ∧ x.len ≤ s.K * s.size ∧ (x.place.length : Int) = s.K + s.M ∧ 0 ≤ x.id ∧ x.id ≤ 1073741824 ∧ 0 ≤ x.gen ∧ x.gen ≤ 1073741824 ∧ shapeOk s = true := by
  unfold stripeOk numOk at h
  simp only [Bool.and_eq_true, decide_eq_true_eq] at h
  obtain ⟨⟨⟨⟨⟨⟨h1, h2⟩, h3⟩, h4⟩, h5⟩, h6⟩, _⟩ := h
  exact ⟨h4, h5, h6, h2.1, h2.2, h3.1, h3.2, h1⟩
/-- The place of an ID; -1: there is none. -/
def atX (l : List Stripe) (id : Int) : Int := match l.findIdx? (fun y => decide (y.id = id)) with
  | some i => (i : Int)
  | none => -1
theorem atX_none {l : List Stripe} {id : Int} (h : ∀ j, j < l.length → (l.getD j default).id ≠ id) : atX l id = -1 := by
  unfold atX
  have : l.findIdx? (fun y => decide (y.id = id)) = none := by
    rw [List.findIdx?_eq_none_iff]
    intro y hy
    obtain ⟨j, hj, rfl⟩ := List.getElem_of_mem hy
    have := h j hj
    rw [List.getD_eq_getElem?_getD, List.getElem?_eq_getElem hj] at this
    simpa using this
  rw [this]
theorem atX_at {l : List Stripe} {id : Int} {i : Nat} (hi : i < l.length) (h : (l.getD i default).id = id) (h1 : ∀ j, j < i → (l.getD j default).id ≠ id) : atX l id = (i : Int) := by
  unfold atX
  have : l.findIdx? (fun y => decide (y.id = id)) = some i := by
    rw [List.findIdx?_eq_some_iff_getElem]
    rw [List.getD_eq_getElem?_getD, List.getElem?_eq_getElem hi] at h
    refine ⟨hi, by simpa using h, fun j hj => ?_⟩
    have := h1 j hj
    rw [List.getD_eq_getElem?_getD, List.getElem?_eq_getElem (by omega)] at this
    simpa using this
  rw [this]
theorem atX_cases (l : List Stripe) (id : Int) : (atX l id = -1 ∧ ∀ j, j < l.length → (l.getD j default).id ≠ id) ∨ ∃ i : Nat, i < l.length ∧ atX l id = (i : Int) ∧ (l.getD i default).id = id ∧ ∀ j, j < i → (l.getD j default).id ≠ id := by
  by_cases h : ∃ j, j < l.length ∧ (l.getD j default).id = id
  · obtain ⟨i, ⟨hi, he⟩, hm⟩ := exists_least h
    refine .inr ⟨i, hi, atX_at hi he (fun j hj hj2 => ?_), he, fun j hj hj2 => ?_⟩
    · have := hm j ⟨by omega, hj2⟩; omega
    · have := hm j ⟨by omega, hj2⟩; omega
  · exact .inl ⟨atX_none (fun j hj he => h ⟨j, hj, he⟩), fun j hj he => h ⟨j, hj, he⟩⟩
theorem findId_atX {l : List Stripe} {id : Int} {i : Nat} (hi : i < l.length) (h : atX l id = (i : Int)) : findId l id = some (l.getD i default) := by
  rcases atX_cases l id with ⟨h1, _⟩ | ⟨j, hj, h1, h2, h3⟩
  · omega
  · obtain rfl : j = i := by omega
    unfold findId
    rw [List.find?_eq_some_iff_getElem]
    have e : ∀ j (hj : j < l.length), l.getD j default = l[j] := fun j hj => by rw [List.getD_eq_getElem?_getD, List.getElem?_eq_getElem hj]; rfl
    refine ⟨by simpa using h2, j, hj, (e j hj).symm, fun k hk => ?_⟩
    have := h3 k hk
    rw [e k (by omega)] at this
    simpa using this
theorem findId_atX_none {l : List Stripe} {id : Int} (h : atX l id < 0) : findId l id = none := by
  rcases atX_cases l id with ⟨_, h1⟩ | ⟨j, hj, h1, _⟩
  · unfold findId
    rw [List.find?_eq_none]
    intro y hy
    obtain ⟨j, hj, rfl⟩ := List.getElem_of_mem hy
    have := h1 j hj
    rw [List.getD_eq_getElem?_getD, List.getElem?_eq_getElem hj] at this
    simpa using this
  · omega
/-- Which stripes are named: as truths, one by one. -/
def namedB (l : List Stripe) (N : List Int) : List Bool := l.map (fun y => decide (y.id ∈ N))
theorem namedB_at {l : List Stripe} {N : List Int} {i : Nat} (hi : i < l.length) : (namedB l N).getD i false = decide ((l.getD i default).id ∈ N) := by
  unfold namedB
  rw [List.getD_eq_getElem?_getD, List.getElem?_map, List.getD_eq_getElem?_getD, List.getElem?_eq_getElem hi]
  rfl
theorem namedB_set {l : List Stripe} {N : List Int} {i : Nat} (hi : i < l.length) (hs : ∀ i j, i < j → j < l.length → (l.getD i default).id < (l.getD j default).id) : (namedB l N).set i true = namedB l (N ++ [(l.getD i default).id]) := by
  unfold namedB
  refine List.ext_getElem? (fun k => ?_)
  have e : ∀ j (hj : j < l.length), l.getD j default = l[j] := fun j hj => by rw [List.getD_eq_getElem?_getD, List.getElem?_eq_getElem hj]; rfl
  by_cases hk : k < l.length
  · by_cases hki : k = i
    · subst hki
      rw [List.getElem?_set_self (by simpa using hk), List.getElem?_map, List.getElem?_eq_getElem hk]
      refine congrArg some (decide_eq_true (List.mem_append_right _ ?_)).symm
      rw [e k hk]
      exact List.mem_singleton.2 rfl
    · rw [List.getElem?_set_ne (Ne.symm hki), List.getElem?_map, List.getElem?_map, List.getElem?_eq_getElem hk]
      have hne : l[k].id ≠ (l.getD i default).id := by
        rw [← e k hk]
        rcases Nat.lt_or_ge k i with h | h
        · have := hs k i h hi; omega
        · have := hs i k (by omega) hk; omega
      simp only [Option.map_some, List.mem_append, List.mem_singleton, hne, or_false]
  · rw [List.getElem?_eq_none (by simp; omega), List.getElem?_eq_none (by simp; omega)]
/-- So much is left of a text behind so many stripes. -/
def leftX (W len : Int) (k : Nat) : Int := max 0 (len - (k : Int) * W)
theorem leftX_zero {W len : Int} (h : 0 ≤ len) : leftX W len 0 = len := by unfold leftX; simp; omega
theorem leftX_succ {W len : Int} (hW : 1 ≤ W) (k : Nat) : leftX W len (k + 1) = leftX W len k - min (leftX W len k) W := by
  unfold leftX
  have : ((k + 1 : Nat) : Int) * W = (k : Int) * W + W := by rw [show ((k + 1 : Nat) : Int) = (k : Int) + 1 from rfl, Int.add_mul, Int.one_mul]
  rw [this]
  generalize (k : Int) * W = q
  omega
theorem leftX_many {s : Shape} {len : Int} (hW : 1 ≤ s.K * s.size) (h : 0 ≤ len) : leftX (s.K * s.size) len (manyX s len) = 0 := by
  unfold leftX manyX
  generalize s.K * s.size = W at *
  have h1 : 0 ≤ (len + W - 1) / W := Int.ediv_nonneg (by omega) (by omega)
  rw [Int.toNat_of_nonneg h1]
  have h2 := Int.emod_lt_of_pos (len + W - 1) (by omega : 0 < W)
  have h3 := Int.emod_add_mul_ediv (len + W - 1) W
  rw [Int.mul_comm] at h3
  omega
theorem lensF_step {W : Int} {l : List Stripe} {xs : List Int} {k : Nat} {left : Int} (hk : k < xs.length) : lensF W l (xs.drop k) left = match findId l (xs.getD k 0) with
    | none => false
    | some y => if y.len = min left W then lensF W l (xs.drop (k + 1)) (left - y.len) else false := by
  have : xs.drop k = xs.getD k 0 :: xs.drop (k + 1) := by
    rw [List.drop_eq_getElem_cons hk, List.getD_eq_getElem?_getD, List.getElem?_eq_getElem hk]; rfl
  rw [this]
  rfl
/-- What the page asks of a thing ahead of its list. -/
def thingHead (s : Shape) (xs : List Entry) (k : Nat) : Bool :=
  decide ((xs.getD k default).digest.size = 32) && ((decide (k = 0) || strLt (xs.getD (k - 1) default).digest (xs.getD k default).digest) && (decide (0 ≤ (xs.getD k default).len) && (decide ((xs.getD k default).len ≤ 2000) && decide ((xs.getD k default).list.length = manyX s (xs.getD k default).len))))
theorem thingAt_head {s : Shape} {l : List Stripe} {xs : List Entry} {k : Nat} : thingAt s l xs k = (thingHead s xs k && lensF (s.K * s.size) l (xs.getD k default).list (xs.getD k default).len) := by
  unfold thingAt thingHead
  simp only [Bool.and_assoc]
theorem stripesB_at {s : Shape} {nx : Int} {l : List Stripe} {k : Nat} (h : stripesB s l = true) (hk : k < l.length) : stripeAt s nx l k = decide ((l.getD k default).id < nx) := by
  have h1 := List.all_eq_true.1 h k (List.mem_range.2 hk)
  unfold stripesAt at h1
  unfold stripeAt
  rw [Bool.and_eq_true] at h1
  obtain ⟨h1, h2⟩ := h1
  rw [h1]
  rcases Nat.eq_zero_or_pos k with rfl | h0
  · simp
  · have h3 : decide (k = 0) = false := decide_eq_false (by omega)
    rw [h3]
    have h4 : (l.getD (k - 1) default).id < (l.getD k default).id := by
      simp [h0] at h2
      exact h2
    rw [decide_eq_true h4]
    simp
theorem stripesB_off {s : Shape} {nx : Int} {l : List Stripe} (h : (stripesB s l && shapeOk s) = false) : (shapeOk s && stripesOk s nx l) = false := by
  cases hs : shapeOk s with
  | false => rfl
  | true =>
    rw [hs, Bool.and_true] at h
    cases hq : stripesOk s nx l with
    | false => rfl
    | true =>
      have hall := List.all_eq_true.1 (show (List.range l.length).all (stripeAt s nx l) = true from by unfold stripesOk at hq; rw [Bool.and_eq_true] at hq; exact hq.1)
      have : stripesB s l = true := stripesB_true (fun j hj => by
        have h2 := hall j (List.mem_range.2 hj)
        unfold stripeAt at h2
        unfold stripesAt
        simp only [Bool.and_eq_true, Bool.or_eq_true, decide_eq_true_eq] at h2
        obtain ⟨h3, _, h4⟩ := h2
        rw [h3, Bool.true_and]
        rcases Nat.eq_zero_or_pos j with rfl | h0
        · rfl
        · have h5 : (l.getD (j - 1) default).id < (l.getD j default).id := by omega
          rw [decide_eq_false (by omega : ¬ (l.getD j default).id ≤ (l.getD (j - 1) default).id)]
          simp)
      rw [this] at h; cases h
end Go.Proofs.Ytjeecdoffoahkaa
