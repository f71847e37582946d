/- The turn of the pieces, in plain: which comes behind a cursor; a round. No program in sight. -/
import Derived.Test.YtjeecdoffoahkaaQ9r
namespace Go.Proofs.Ytjeecdoffoahkaa
open Go.RowKit Go.Silo

/-- The next piece behind a cursor. -/
def nextX (s : Shape) (l : List Stripe) (c : Cursor) : Cursor :=
  if 0 ≤ atX l c.stripe ∧ c.index + 1 < s.K + s.M then ⟨c.stripe, c.index + 1⟩
  else match l.find? (fun y => decide (c.stripe < y.id)) with
    | some y => ⟨y.id, 0⟩
    | none => ⟨(l.getD 0 default).id, 0⟩
theorem nextX_in {s : Shape} {l : List Stripe} {c : Cursor} (h : 0 ≤ atX l c.stripe ∧ c.index + 1 < s.K + s.M) : nextX s l c = ⟨c.stripe, c.index + 1⟩ := by unfold nextX; rw [if_pos h]
theorem getD_at {l : List Stripe} {j : Nat} (hj : j < l.length) : l.getD j default = l[j] := by rw [List.getD_eq_getElem?_getD, List.getElem?_eq_getElem hj]; rfl
theorem nextX_to {s : Shape} {l : List Stripe} {c : Cursor} {i : Nat} (h : ¬ (0 ≤ atX l c.stripe ∧ c.index + 1 < s.K + s.M)) (hi : i < l.length) (h1 : c.stripe < (l.getD i default).id) (h2 : ∀ j, j < i → (l.getD j default).id ≤ c.stripe) : nextX s l c = ⟨(l.getD i default).id, 0⟩ := by
  unfold nextX
  rw [if_neg h]
  have : l.find? (fun y => decide (c.stripe < y.id)) = some (l.getD i default) := by
    rw [List.find?_eq_some_iff_getElem]
    refine ⟨by simpa using h1, i, hi, (getD_at hi).symm, fun j hj => ?_⟩
    have := h2 j hj
    rw [getD_at (by omega)] at this
    simp; omega
  rw [this]
theorem nextX_over {s : Shape} {l : List Stripe} {c : Cursor} (h : ¬ (0 ≤ atX l c.stripe ∧ c.index + 1 < s.K + s.M)) (h2 : ∀ j, j < l.length → (l.getD j default).id ≤ c.stripe) : nextX s l c = ⟨(l.getD 0 default).id, 0⟩ := by
  unfold nextX
  rw [if_neg h]
  have : l.find? (fun y => decide (c.stripe < y.id)) = none := by
    rw [List.find?_eq_none]
    intro y hy
    obtain ⟨j, hj, rfl⟩ := List.getElem_of_mem hy
    have := h2 j hj
    rw [getD_at hj] at this
    simp; omega
  rw [this]
/-- What a search has found, as a place. -/
theorem atX_found {l : List Stripe} {x : Int} {i : Nat} (hi : i ≤ l.length) (h1 : ∀ j, j < i → (l.getD j default).id < x) (h2 : ∀ j, i ≤ j → j < l.length → x ≤ (l.getD j default).id) (hs : ∀ i j, i < j → j < l.length → (l.getD i default).id < (l.getD j default).id) :
    0 ≤ atX l x ↔ (i < l.length ∧ (l.getD i default).id = x) := by
  constructor
  · intro h
    rcases atX_cases l x with ⟨h3, _⟩ | ⟨j, hj, _, h4, _⟩
    · omega
    · have : j = i := by
        rcases Nat.lt_trichotomy j i with h5 | h5 | h5
        · have := h1 j h5; omega
        · exact h5
        · have := hs i j h5 hj; have := h2 i (Nat.le_refl _) (by omega); omega
      subst this
      exact ⟨hj, h4⟩
  · rintro ⟨h3, h4⟩
    rw [atX_at h3 h4 (fun j hj => by have := h1 j hj; omega)]
    omega
/-- The program's way to the next piece. -/
theorem behind_in {s : Shape} {l : List Stripe} {c : Cursor} {i : Nat} (hi : i ≤ l.length) (h1 : ∀ j, j < i → (l.getD j default).id < c.stripe) (h2 : ∀ j, i ≤ j → j < l.length → c.stripe ≤ (l.getD j default).id) (hs : ∀ i j, i < j → j < l.length → (l.getD i default).id < (l.getD j default).id)
    (h : i < l.length ∧ (l.getD i default).id = c.stripe) (hx : c.index < s.K + s.M - 1) : nextX s l c = ⟨c.stripe, c.index + 1⟩ := nextX_in ⟨(atX_found hi h1 h2 hs).2 h, by omega⟩
theorem behind_on {s : Shape} {l : List Stripe} {c : Cursor} {i : Nat} (hi : i ≤ l.length) (_h0 : 0 < l.length) (h1 : ∀ j, j < i → (l.getD j default).id < c.stripe) (h2 : ∀ j, i ≤ j → j < l.length → c.stripe ≤ (l.getD j default).id) (hs : ∀ i j, i < j → j < l.length → (l.getD i default).id < (l.getD j default).id)
    (h : i < l.length ∧ (l.getD i default).id = c.stripe) (hx : ¬ c.index < s.K + s.M - 1) : nextX s l c = ⟨(l.getD ((i + 1) % l.length) default).id, 0⟩ := by
  have hn : ¬ (0 ≤ atX l c.stripe ∧ c.index + 1 < s.K + s.M) := fun h => by omega
  by_cases hl : i + 1 < l.length
  · rw [Nat.mod_eq_of_lt hl]
    refine nextX_to hn hl (by have := hs i (i + 1) (by omega) hl; omega) (fun j hj => ?_)
    rcases Nat.lt_or_ge j i with h3 | h3
    · have := h1 j h3; omega
    · obtain rfl : j = i := by omega
      omega
  · have he : i + 1 = l.length := by omega
    rw [he, Nat.mod_self]
    refine nextX_over hn (fun j hj => ?_)
    rcases Nat.lt_or_ge j i with h3 | h3
    · have := h1 j h3; omega
    · obtain rfl : j = i := by omega
      omega
theorem behind_off {s : Shape} {l : List Stripe} {c : Cursor} {i : Nat} (hi : i ≤ l.length) (_h0 : 0 < l.length) (h1 : ∀ j, j < i → (l.getD j default).id < c.stripe) (h2 : ∀ j, i ≤ j → j < l.length → c.stripe ≤ (l.getD j default).id) (hs : ∀ i j, i < j → j < l.length → (l.getD i default).id < (l.getD j default).id)
    (h : ¬ (i < l.length ∧ (l.getD i default).id = c.stripe)) : nextX s l c = ⟨(l.getD (i % l.length) default).id, 0⟩ := by
  have hn : ¬ (0 ≤ atX l c.stripe ∧ c.index + 1 < s.K + s.M) := fun h3 => h ((atX_found hi h1 h2 hs).1 h3.1)
  by_cases hl : i < l.length
  · rw [Nat.mod_eq_of_lt hl]
    refine nextX_to hn hl ?_ (fun j hj => by have := h1 j hj; omega)
    have := h2 i (Nat.le_refl _) hl
    rcases Int.lt_or_eq_of_le this with h3 | h3
    · exact h3
    · exact absurd ⟨hl, h3.symm⟩ h
  · have he : i = l.length := by omega
    rw [he, Nat.mod_self]
    exact nextX_over hn (fun j hj => by have := h1 j (by omega); omega)
/-- The cursor behind so many pieces. -/
def turnsC (s : Shape) (l : List Stripe) (c : Cursor) : Nat → Cursor
  | 0 => c
  | k + 1 => nextX s l (turnsC s l c k)
/-- So many pieces behind a cursor. -/
def piecesX (s : Shape) (l : List Stripe) (c : Cursor) (n : Nat) : List Cursor := (List.range n).map (fun k => turnsC s l c (k + 1))
theorem piecesX_succ (s : Shape) (l : List Stripe) (c : Cursor) (n : Nat) : piecesX s l c (n + 1) = piecesX s l c n ++ [turnsC s l c (n + 1)] := by unfold piecesX; rw [List.range_succ, List.map_append]; rfl
theorem piecesX_len (s : Shape) (l : List Stripe) (c : Cursor) (n : Nat) : (piecesX s l c n).length = n := by simp [piecesX]
/-- May a cursor be asked? -/
def cursorOk (s : Shape) (c : Cursor) : Bool := decide (-1 ≤ c.stripe ∧ c.stripe ≤ 1073741824 ∧ -1 ≤ c.index ∧ c.index ≤ s.K + s.M - 1)
/-- A cursor of the book. -/
theorem nextX_ok {s : Shape} {l : List Stripe} {c : Cursor} (h0 : 0 < l.length) (hk : 1 ≤ s.K + s.M) (hl : ∀ j, j < l.length → 0 ≤ (l.getD j default).id ∧ (l.getD j default).id ≤ 1073741824) (hc : -1 ≤ c.stripe ∧ c.stripe ≤ 1073741824 ∧ -1 ≤ c.index) :
    -1 ≤ (nextX s l c).stripe ∧ (nextX s l c).stripe ≤ 1073741824 ∧ 0 ≤ (nextX s l c).index ∧ (nextX s l c).index < s.K + s.M := by
  unfold nextX
  split
  · rename_i h; exact ⟨hc.1, hc.2.1, by show 0 ≤ c.index + 1; omega, h.2⟩
  · split
    · rename_i y hy
      obtain ⟨j, hj, rfl⟩ := List.getElem_of_mem (List.mem_of_find?_eq_some hy)
      have := hl j hj
      rw [getD_at hj] at this
      exact ⟨by show -1 ≤ l[j].id; omega, this.2, Int.le_refl _, by show 0 < s.K + s.M; omega⟩
    · have := hl 0 h0
      exact ⟨by show -1 ≤ (l.getD 0 default).id; omega, this.2, Int.le_refl _, by show 0 < s.K + s.M; omega⟩
theorem turnsC_ok {s : Shape} {l : List Stripe} {c : Cursor} (h0 : 0 < l.length) (hk : 1 ≤ s.K + s.M) (hl : ∀ j, j < l.length → 0 ≤ (l.getD j default).id ∧ (l.getD j default).id ≤ 1073741824) (hc : -1 ≤ c.stripe ∧ c.stripe ≤ 1073741824 ∧ -1 ≤ c.index ∧ c.index < s.K + s.M) :
    ∀ n, -1 ≤ (turnsC s l c n).stripe ∧ (turnsC s l c n).stripe ≤ 1073741824 ∧ -1 ≤ (turnsC s l c n).index ∧ (turnsC s l c n).index < s.K + s.M
  | 0 => hc
  | n + 1 => by
    have h := turnsC_ok h0 hk hl hc n
    have := nextX_ok (s := s) h0 hk hl (c := turnsC s l c n) ⟨h.1, h.2.1, h.2.2.1⟩
    exact ⟨this.1, this.2.1, by have := this.2.2.1; show -1 ≤ (nextX s l (turnsC s l c n)).index; omega, this.2.2.2⟩
end Go.Proofs.Ytjeecdoffoahkaa
