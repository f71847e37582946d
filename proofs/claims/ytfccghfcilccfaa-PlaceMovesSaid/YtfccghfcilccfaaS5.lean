/- Small numbers' functions of the library; the insertion sort by a key, of few numbers. -/
import Derived.Test.YtfccghfcilccfaaS1
import Derived.Deep.LoopGhost
namespace Go.Proofs.Ytfccghfcilccfaa
open Go.RowKit Go.Silo

theorem isNaN_c {w : World} {a : Int} : Calls Try.prog 190 #[.int .i64 a] w (RetV (.bool false) w) := by
  have h : (a != a) = false := by simp
  go_enter Try.func190, Try.ntmps190
  go_wp2
  go_ret
  exact ⟨by simp, Below.refl _ _⟩

/-- -1, 0, 1. -/
def cmp3 (a b : Int) : Int := if a < b then -1 else if b < a then 1 else 0
theorem Compare_c {w : World} {a b : Int} : Calls Try.prog 159 #[.int .i64 a, .int .i64 b] w (RetV (.int .i64 (cmp3 a b)) w) := by
  have hr : Hid (cmp3 a b = if a < b then -1 else if b < a then 1 else 0) := Lib.hid rfl
  generalize cmp3 a b = r at *
  rcases (by omega : a < b ∨ a = b ∨ b < a) with h | h | h
  · go_enter Try.func159, Try.ntmps159
    go_wp2_with (go_at_call 190; refine isNaN_c.mono ?_; rintro e w1 ⟨rfl, hb1⟩)
    go_ret
    exact ⟨by rw [hr.out, if_pos h]; rfl, (by repeat' (first | (with_reducible exact Below.refl _ _) | (with_reducible refine Below.alloc ?_ ?_ _) | (with_reducible refine Below.drew ?_) | (with_reducible refine below_drewN ?_ _) | (with_reducible refine Below.setCell ?_ ?_ _) | (refine via ?_ (by with_reducible assumption) ?_) | (refine via ?_ (below_ext _ _) ?_) | go_size))⟩
  · subst h
    go_enter Try.func159, Try.ntmps159
    go_wp2_with (go_at_call 190; refine isNaN_c.mono ?_; rintro e w1 ⟨rfl, hb1⟩)
    go_ret
    exact ⟨by rw [hr.out]; simp, (by repeat' (first | (with_reducible exact Below.refl _ _) | (with_reducible refine Below.alloc ?_ ?_ _) | (with_reducible refine Below.drew ?_) | (with_reducible refine below_drewN ?_ _) | (with_reducible refine Below.setCell ?_ ?_ _) | (refine via ?_ (by with_reducible assumption) ?_) | (refine via ?_ (below_ext _ _) ?_) | go_size))⟩
  · go_enter Try.func159, Try.ntmps159
    go_wp2_with (go_at_call 190; refine isNaN_c.mono ?_; rintro e w1 ⟨rfl, hb1⟩)
    go_ret
    exact ⟨by rw [hr.out, if_neg (by omega), if_pos h]; rfl, (by repeat' (first | (with_reducible exact Below.refl _ _) | (with_reducible refine Below.alloc ?_ ?_ _) | (with_reducible refine Below.drew ?_) | (with_reducible refine below_drewN ?_ _) | (with_reducible refine Below.setCell ?_ ?_ _) | (refine via ?_ (by with_reducible assumption) ?_) | (refine via ?_ (below_ext _ _) ?_) | go_size))⟩

set_option maxHeartbeats 400000 in
theorem Index_int {tg : Bool} {T : TypeId} {S : Nat → Prop} {w : World} {A : Option Addr} {n c : Nat} {xs : List Int} {x : Int} (h : Sl tg T intE w S A n c xs) :
    Calls Try.prog 188 #[.slice A n c, .int .i64 x] w (RetV (.int .i64 (inOf xs x)) w) := by
  have HL := Lib.hid h.len
  have hcap : n ≤ 9223372036854775807 := Nat.le_trans h.le h.cap
  go_enter Try.func188, Try.ntmps188
  go_wp2
  go_loopw [5, 8] (fun _ i wr => ∃ k : Nat, k ≤ n ∧ i = .int .i64 k ∧ Below w.heap.size w wr ∧ Hid (∀ j, j < k → xs.getD j 0 ≠ x)) (fun _ i _ => n - (intOf i).toNat)
  case atStart => exact ⟨0, Nat.zero_le _, rfl, Below.refl _ _, Lib.hid (fun j hj => by omega)⟩
  case round =>
    obtain ⟨k, hk, rfl, hB, he⟩ := hrel
    by_cases hlt : k < n
    · obtain ⟨b, off, rfl, hS, hbl, g1, hc0, _⟩ := (h.all hB).int_at hlt
      generalize hx : xs.getD k 0 = y at *
      have HX := Lib.hid hx; clear hx
      have HB := Lib.hid hB; clear hB
      by_cases hxy : x = y
      · have hb : (x == y) = true := by simpa using hxy
        have HF : Hid (inOf xs x = (k : Int)) := Lib.hid (idxOf_some (d := 0) (p := (· == x)) (by have := HL.out; omega) (by show (xs.getD k 0 == x) = true; rw [HX.out, hxy]; simp) (fun j hj => by simpa using he.out j hj))
        clear hxy
        go_wp2
        go_ret
        exact ⟨by rw [HF.out]; rfl, HB.out⟩
      · have hb : (x == y) = false := by simpa using hxy
        have HF : Hid (∀ j, j < k + 1 → xs.getD j 0 ≠ x) := Lib.hid (fun j hj => by
          by_cases hjk : j = k
          · subst hjk; rw [HX.out]; exact fun e => hxy e.symm
          · exact he.out j (by omega))
        clear hxy
        go_wp2
        go_roundw
        case rel => exact ⟨k + 1, by omega, by go_num, HB.out, HF⟩
        case measure => simp [intOf]; omega
    · have HF : Hid (inOf xs x = -1) := Lib.hid (idxOf_none (d := 0) (p := (· == x)) fun j hj => by simpa using he.out j (by have := HL.out; omega))
      go_wp2
      go_ret
      exact ⟨by rw [HF.out]; rfl, hB⟩

theorem inOf_mem (xs : List Int) (x : Int) : (0 ≤ inOf xs x) ↔ x ∈ xs := by
  have h := idxOf_any (xs := xs) (p := (· == x))
  have h2 : inOf xs x = idxOf (· == x) xs := rfl
  rw [h2]
  constructor
  · intro h0; rw [decide_eq_true h0] at h; rw [List.any_eq_true] at h; obtain ⟨y, hy, e⟩ := h; simp at e; subst e; exact hy
  · intro hm
    have : xs.any (· == x) = true := List.any_eq_true.2 ⟨x, hm, by simp⟩
    rw [this] at h
    exact of_decide_eq_true h.symm

set_option maxHeartbeats 400000 in
theorem Contains_int {tg : Bool} {T : TypeId} {S : Nat → Prop} {w : World} {A : Option Addr} {n c : Nat} {xs : List Int} {x : Int} (h : Sl tg T intE w S A n c xs) :
    Calls Try.prog 156 #[.slice A n c, .int .i64 x] w (RetV (.bool (decide (x ∈ xs))) w) := by
  have HQ := Lib.hid (inOf_mem xs x)
  go_enter Try.func156, Try.ntmps156
  go_wp2_with fail
  refine (Index_int h).mono ?_
  rintro e w2 ⟨rfl, hb2⟩
  generalize hi : inOf xs x = i at *
  by_cases h0 : 0 ≤ i
  · have HM := Lib.hid (HQ.out.1 h0)
    go_wp2
    go_ret
    exact ⟨by rw [decide_eq_true HM.out]; rfl, hb2⟩
  · have HM := Lib.hid (fun hm => h0 (HQ.out.2 hm))
    go_wp2
    go_ret
    exact ⟨by rw [decide_eq_false HM.out]; first | rfl | (simp; omega), hb2⟩

end Go.Proofs.Ytfccghfcilccfaa
