/- slices.Clone at each instance; slots in memory of their own; the numbers from 0 on. Printed by gen_lib.py. -/
import Derived.Test.YtipecejghioicaaZdr
import Derived.Lib.SliceRun
import Derived.Deep.RegionLaw
import Derived.Deep.DeepMust
-- from S1r
namespace Go.Proofs.Ytipecejghioicaa
open Go.RowKit Go.Silo

/-- Element j may stand where it does in a list of free slots. -/
def Rat (xs : List Int) (j : Nat) : Prop := 0 ≤ xs.getD j 0 ∧ xs.getD j 0 ≤ 63 ∧ (0 < j → xs.getD (j - 1) 0 < xs.getD j 0)
def Rising (xs : List Int) : Prop := ∀ j, j < xs.length → Rat xs j
theorem Rat.first {xs : List Int} {j : Nat} (hj : j = 0) (h0 : 0 ≤ xs.getD j 0) (h1 : xs.getD j 0 ≤ 63) : Rat xs j := ⟨h0, h1, fun h => by omega⟩
theorem Rat.next {xs : List Int} {j : Nat} (h0 : 0 ≤ xs.getD (j + 1) 0) (h1 : xs.getD (j + 1) 0 ≤ 63) (h2 : xs.getD j 0 < xs.getD (j + 1) 0) : Rat xs (j + 1) := ⟨h0, h1, fun _ => by simpa using h2⟩

/-- The first place of an element that meets p; -1. -/
def idxOf {α : Type} (p : α → Bool) (xs : List α) : Int := match xs.findIdx? p with | some k => (k : Int) | none => -1
theorem idxOf_some {α : Type} {p : α → Bool} {xs : List α} {d : α} {k : Nat} (hk : k < xs.length) (h : p (xs.getD k d) = true) (hn : ∀ j, j < k → p (xs.getD j d) = false) : idxOf p xs = (k : Int) := by
  have : xs.findIdx? p = some k := by
    rw [List.findIdx?_eq_some_iff_getElem]
    refine ⟨hk, ?_, fun j hj => ?_⟩
    · rw [List.getD_eq_getElem?_getD, List.getElem?_eq_getElem hk] at h; simpa using h
    · have := hn j hj; rw [List.getD_eq_getElem?_getD, List.getElem?_eq_getElem (by omega)] at this; simpa using this
  unfold idxOf; rw [this]
theorem idxOf_none {α : Type} {p : α → Bool} {xs : List α} {d : α} (hn : ∀ j, j < xs.length → p (xs.getD j d) = false) : idxOf p xs = -1 := by
  have : xs.findIdx? p = none := by
    rw [List.findIdx?_eq_none_iff]
    intro y hy
    obtain ⟨j, hj, rfl⟩ := List.mem_iff_getElem.1 hy
    have := hn j hj
    rw [List.getD_eq_getElem?_getD, List.getElem?_eq_getElem hj] at this
    simpa using this
  unfold idxOf; rw [this]
theorem idxOf_any {α : Type} {p : α → Bool} {xs : List α} : xs.any p = decide (0 ≤ idxOf p xs) := by
  unfold idxOf
  cases h : xs.findIdx? p with
  | none =>
    rw [List.findIdx?_eq_none_iff] at h
    rw [List.any_eq_false.2 (fun x hx => by simpa using h x hx)]; rfl
  | some k =>
    rw [List.findIdx?_eq_some_iff_getElem] at h
    obtain ⟨hk, hp, _⟩ := h
    rw [List.any_eq_true.2 ⟨_, List.getElem_mem hk, hp⟩]; simp

theorem getD_mem {α : Type} {l : List α} {d : α} {k : Nat} (h : k < l.length) : l.getD k d ∈ l := by rw [List.getD_eq_getElem?_getD, List.getElem?_eq_getElem h]; exact List.getElem_mem _
end Go.Proofs.Ytipecejghioicaa
namespace Go.Proofs.Ytipecejghioicaa
open Go.RowKit Go.Silo

/-- A call that makes a new list, whose elements may lead to what lies in S. -/
def RetOwnIn {α : Type} (T : TypeId) (E : Enc α) (w : World) (S : Nat → Prop) (xs : List α) (e : Ending) (w' : World) : Prop :=
  ∃ A c, e = .returned (.slice A xs.length c) ∧ Own T E w' w.heap.size S A xs.length c xs ∧ Below w.heap.size w w'

set_option maxHeartbeats 400000 in
theorem Clone_int {tg : Bool} {T : TypeId} {S : Nat → Prop} {w : World} {A : Option Addr} {n c : Nat} {xs : List (Int)} (h : Sl tg T intE w S A n c xs) (hn : n ≤ 100000000) :
    Calls Try.prog 31 #[.slice A n c] w (RetOwn 3 intE w xs) := by
  obtain ⟨i0, hi, hz0, hz1, hz2⟩ := info_parts Try.info_Int
  have HL := Lib.hid h.len
  have hq := fun W : World => Lib.run_eql_slice_nil (P := Try.prog) W 44 3 A n c 0 0 Try.underlying44
  cases A with
  | none =>
    go_enter Try.func31, Try.ntmps31
    go_wp2
    go_ret
    have hn0 : n = 0 := by
      rcases Nat.eq_zero_or_pos n with h0 | h0
      · exact h0
      · obtain ⟨_, _, e, _⟩ := h.2.2.2 h0; cases e
    subst hn0
    obtain rfl : xs = [] := List.eq_nil_of_length_eq_zero HL.out
    exact ⟨none, 0, rfl, Own.nil_, Below.refl _ _⟩
  | some ad =>
    have hlit : Own 3 intE (w.alloc (.cells #[] 3)) w.heap.size (fun b => w.heap.size ≤ b) (some ⟨w.heap.size, 0, none⟩) 0 0 [] := Own.lit [] [] 0 (Nat.le_refl _) (by omega) (by simp) rfl (fun k y hy => by simp at hy)
    have hsl := (h.lt_block).frame (Agree.alloc _ w (.cells #[] 3)) (by simp)
    rcases Nat.eq_zero_or_pos n with h0 | h0
    · subst h0
      obtain rfl : xs = [] := List.eq_nil_of_length_eq_zero HL.out
      go_enter Try.func31, Try.ntmps31
      go_wp2_with (at_builtin; refine wpList_append_Own rfl _ _ 44 rfl i0 (.int .i64 0) 8 Try.underlying44 hi hz0 hz1 hz2 rfl (by decide) rfl hlit ad 0 _ [] [] rfl (by simp) (fun j u hj => by simp at hj) rfl (fun k y hy => by simp at hy) (fun u hu => by simp at hu) (by omega) (by omega) (by simp) ?_)
      intro A2 c2 w2 hown2 hg2 _
      go_wp2
      go_ret
      exact ⟨A2, c2, rfl, hown2, ((Below.refl _ w).alloc (Nat.le_refl _) _).grown hg2 (by simp) (fun k hk => by simp [ablk] at hk; omega)⟩
    · obtain ⟨b, off, e, _⟩ := h.2.2.2 h0
      injection e with e
      subst e
      go_enter Try.func31, Try.ntmps31
      go_wp2_with (at_builtin; refine wpList_append_sl rfl _ _ 44 rfl i0 (.int .i64 0) 8 Try.underlying44 hi hz0 hz1 hz2 rfl (by decide) rfl hlit rfl hsl (fun vs y _ hR => hR) (by omega) (by omega) (by simp) ?_)
      intro A2 c2 w2 hown2 hg2 _
      try simp only [Nat.zero_add, List.nil_append] at hown2
      have e1 := HL.out
      subst e1
      go_wp2
      go_ret
      exact ⟨A2, c2, by simp, hown2, ((Below.refl _ w).alloc (Nat.le_refl _) _).grown hg2 (by simp) (fun k hk => by simp [ablk] at hk; omega)⟩

/-- 0, 1, .. up to n. -/
def upto (n : Nat) : List Int := (List.range n).map (fun i : Nat => (i : Int))
end Go.Proofs.Ytipecejghioicaa
