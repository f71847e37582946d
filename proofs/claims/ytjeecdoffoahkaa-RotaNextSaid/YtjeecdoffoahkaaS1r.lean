/- Which slots may be: the program's answer and the page's are one. -/
import Derived.Test.YtjeecdoffoahkaaZdr
namespace Go.Proofs.Ytjeecdoffoahkaa
open Go.RowKit Go.Silo

/-- Element j may stand where it does in a list of free slots. -/
def Rat (xs : List Int) (j : Nat) : Prop := 0 ≤ xs.getD j 0 ∧ xs.getD j 0 ≤ 63 ∧ (0 < j → xs.getD (j - 1) 0 < xs.getD j 0)
theorem Rat.first {xs : List Int} {j : Nat} (hj : j = 0) (h0 : 0 ≤ xs.getD j 0) (h1 : xs.getD j 0 ≤ 63) : Rat xs j := ⟨h0, h1, fun h => by omega⟩
theorem Rat.next {xs : List Int} {j : Nat} (h0 : 0 ≤ xs.getD (j + 1) 0) (h1 : xs.getD (j + 1) 0 ≤ 63) (h2 : xs.getD j 0 < xs.getD (j + 1) 0) : Rat xs (j + 1) := ⟨h0, h1, fun _ => by simpa using h2⟩

/-- The first place of an element that meets p; -1. -/
def idxOf {α : Type} (p : α → Bool) (xs : List α) : Int := match xs.findIdx? p with | some k => (k : Int) | none => -1
theorem idxOf_some {α : Type} {p : α → Bool} {xs : List α} {d : α} {k : Nat} (hk : k < xs.length) (h : p (xs.getD k d) = true) (hn : ∀ j, j < k → p (xs.getD j d) = false) : idxOf p xs = (k : Int) := by
  have : xs.findIdx? p = some k := by
    rw [List.findIdx?_eq_some_iff_getElem]
    refine ⟨hk, ?_, fun j hj => ?_⟩
    · rw [List.getD_eq_getElem?_getD, List.getElem?_eq_getElem hk] at h; simpa using h
    · have := hn j hj; rw [List.getD_eq_getElem?_getD, List.getElem?_eq_getElem (by omega)] at this; simpa using this
  unfold idxOf; rw [this]
theorem idxOf_none {α : Type} {p : α → Bool} {xs : List α} {d : α} (hn : ∀ j, j < xs.length → p (xs.getD j d) = false) : idxOf p xs = -1 := by
  have : xs.findIdx? p = none := by
    rw [List.findIdx?_eq_none_iff]
    intro y hy
    obtain ⟨j, hj, rfl⟩ := List.mem_iff_getElem.1 hy
    have := hn j hj
    rw [List.getD_eq_getElem?_getD, List.getElem?_eq_getElem hj] at this
    simpa using this
  unfold idxOf; rw [this]
theorem idxOf_any {α : Type} {p : α → Bool} {xs : List α} : xs.any p = decide (0 ≤ idxOf p xs) := by
  unfold idxOf
  cases h : xs.findIdx? p with
  | none =>
    rw [List.findIdx?_eq_none_iff] at h
    rw [List.any_eq_false.2 (fun x hx => by simpa using h x hx)]; rfl
  | some k =>
    rw [List.findIdx?_eq_some_iff_getElem] at h
    obtain ⟨hk, hp, _⟩ := h
    rw [List.any_eq_true.2 ⟨_, List.getElem_mem hk, hp⟩]; simp

theorem getD_mem {α : Type} {l : List α} {d : α} {k : Nat} (h : k < l.length) : l.getD k d ∈ l := by rw [List.getD_eq_getElem?_getD, List.getElem?_eq_getElem h]; exact List.getElem_mem _
end Go.Proofs.Ytjeecdoffoahkaa
