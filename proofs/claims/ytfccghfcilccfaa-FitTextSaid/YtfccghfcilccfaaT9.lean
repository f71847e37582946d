/- silolaw11.wakes answers true. -/
import Derived.Test.YtfccghfcilccfaaT7
import Derived.Test.YtfccghfcilccfaaT8
namespace Go.Proofs.Ytfccghfcilccfaa
open Go.RowKit Go.Silo

theorem rising_two : Rising (upto 2) := by
  intro j hj
  have hj2 : j < 2 := hj
  rcases (by omega : j = 0 ∨ j = 1) with rfl | rfl <;> exact ⟨by decide, by decide, by decide⟩
theorem new32_ok : SlotsOk (newX 3 2) := ⟨by decide, by decide, rfl, fun l hl => by
  have : l = upto 2 := by simpa [newX] using hl
  subst this; exact rising_two⟩
theorem take32 : takeR (newX 3 2) 2 [] = ([⟨0, 0⟩, ⟨1, 0⟩], ⟨[true, true, true], [[1], [1], [0, 1]]⟩, 0) := by
  rw [takeR_ok ⟨slotsOkB_true new32_ok, by decide, by decide⟩ (by decide)]
  decide

set_option maxRecDepth 100000 in
set_option maxHeartbeats 4000000 in
theorem wakes_c {w : World} : Calls Try.prog 79 #[] w (RetV (.bool true) w) := by
  have hnew := fun W : World => (New_c (w := W) (d := 3) (n := 2) (by unfold I64; omega) (by unfold I64; omega))
  have e32 : newR 3 2 = (newX 3 2, 0) := newR_ok (d := 3) (n := 2) (by omega)
  rw [e32] at hnew
  have HNEW := Lib.hid hnew; clear hnew e32
  go_enter Try.func79, Try.ntmps79
  go_wp2_with fail
  refine (HNEW.out _).mono ?_
  rintro e w1 ⟨A0, n0, c0, A1, n1, c1, rfl, h0, h1, hb1⟩
  simp only at h0 h1
  go_wp2_with fail
  have ht := fun W hw => Take_c (w := W) (tg2 := false) (T := 0) (S2 := fun _ => False) (A2 := none) (n2 := 0) (c2 := 0) (not := []) (n := 2) (by unfold I64; omega) (h0.all hw) (h1.all hw) (Sl.nil_ (by omega))
  rw [take32] at ht
  refine (ht _ (by repeat' (first | (with_reducible exact Below.refl _ _) | (with_reducible refine Below.alloc ?_ ?_ _) | (with_reducible refine Below.drew ?_) | (with_reducible refine below_drewN ?_ _) | (with_reducible refine Below.setCell ?_ ?_ _) | (refine via ?_ (by with_reducible assumption) ?_) | (refine via ?_ (below_ext _ _) ?_) | go_size))).mono ?_
  rintro e w2 ⟨A, m, c, A3, n3, c3, A4, n4, c4, rfl, hl, h3, h4, hb2⟩
  simp only at hl h3 h4
  clear ht
  obtain rfl : m = 2 := by have := hl.len; simpa using this.symm
  obtain rfl : n4 = 3 := by have := h4.len; simpa using this.symm
  go_wp2_with fail
  refine num_c.mono ?_
  rintro e w3 ⟨rfl, hb3⟩
  go_wp2_with fail
  refine num_c.mono ?_
  rintro e w4 ⟨rfl, hb4⟩
  go_wp2_with fail
  have s3 := hb3.size
  have s4 := hb4.size
  simp at s3
  have hlit : Own 104 slotE (w4.alloc (.cells #[.int .i64 0, .int .i64 0, .int .i64 1, .int .i64 0] 104)) w4.heap.size (fun _ => False) (some ⟨w4.heap.size, 0, none⟩) 2 2 ([⟨0, 0⟩, ⟨1, 0⟩] : List Slot) :=
    Own.lit [.int .i64 0, .int .i64 0, .int .i64 1, .int .i64 0] ([⟨0, 0⟩, ⟨1, 0⟩] : List Slot) 2 (Nat.le_refl _) (by omega) rfl rfl (fun k y hy => by
      match k, hy with
      | 0, hy => injection hy with hy; subst hy; exact ⟨rfl, show I64 0 by unfold I64; omega, show I64 0 by unfold I64; omega⟩
      | 1, hy => injection hy with hy; subst hy; exact ⟨rfl, show I64 1 by unfold I64; omega, show I64 0 by unfold I64; omega⟩)
  refine (EqSlotList_c (hl.all (by repeat' (first | (with_reducible exact Below.refl _ _) | (with_reducible refine Below.alloc ?_ ?_ _) | (with_reducible refine Below.drew ?_) | (with_reducible refine below_drewN ?_ _) | (with_reducible refine Below.setCell ?_ ?_ _) | (refine via ?_ (by with_reducible assumption) ?_) | (refine via ?_ (below_ext _ _) ?_) | go_size))) (hlit.sl (tg := false))).mono ?_
  rintro e w5 ⟨rfl, hb5⟩
  rw [show decide (([⟨0, 0⟩, ⟨1, 0⟩] : List Slot) = [⟨0, 0⟩, ⟨1, 0⟩]) = true from by decide]
  have s5 := hb5.size
  simp at s5
  have hW5 : w5.heap[w2.heap.size]? = some (.cells #[.slice A3 n3 c3, .slice A4 3 c4] 62 (0, 0)) := by
    rw [hb5.block _ (by simp; omega), Below.heap_alloc _ _ _ (by omega), hb4.block _ (by omega), hb3.block _ (by simp)]
    exact heap_alloc_new _ _
  have r1 := (cell_of_row w5 w2.heap.size 1 _ _ _ hW5).trans (show _ = some (Value.slice A4 3 c4) from rfl)
  have hB5 : Below w2.heap.size w2 w5 := (by repeat' (first | (with_reducible exact Below.refl _ _) | (with_reducible refine Below.alloc ?_ ?_ _) | (with_reducible refine Below.drew ?_) | (with_reducible refine below_drewN ?_ _) | (with_reducible refine Below.setCell ?_ ?_ _) | (refine via ?_ (by with_reducible assumption) ?_) | (refine via ?_ (below_ext _ _) ?_) | go_size))
  obtain ⟨b, off, A', n', c', rfl, hS, hbl, hrow, hc0, _⟩ := (h4.all hB5).sl_at (k := 0) (by omega)
  obtain rfl : n' = 1 := by have := hrow.len; simpa using this.symm
  simp only [Nat.add_zero] at hc0
  clear hW5 hrow hlit h0 h1 h3 hl
  go_wp2
  go_ret
  have s1 := hb1.size
  have s2 := hb2.size
  simp at s2
  exact ⟨rfl, (by repeat' (first | (with_reducible exact Below.refl _ _) | (with_reducible refine Below.alloc ?_ ?_ _) | (with_reducible refine Below.drew ?_) | (with_reducible refine below_drewN ?_ _) | (with_reducible refine Below.setCell ?_ ?_ _) | (refine via ?_ (by with_reducible assumption) ?_) | (refine via ?_ (below_ext _ _) ?_) | go_size))⟩
end Go.Proofs.Ytfccghfcilccfaa
