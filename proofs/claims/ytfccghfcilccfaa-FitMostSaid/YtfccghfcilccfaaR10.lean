/- silolaw4.Heavy and silolaw11.Heavy of what is empty. -/
import Derived.Test.YtfccghfcilccfaaT7
namespace Go.Proofs.Ytfccghfcilccfaa
open Go.RowKit Go.Silo

theorem texts_e {w : World} : Calls Try.prog 115 #[.slice none 0 0] w (RetV (.int .i64 0) w) := by
  go_enter Try.func115, Try.ntmps115
  go_wp2
  go_loopw [3, 4] (fun n i wr => n = .int .i64 0 ∧ i = .int .i64 0 ∧ wr = w) (fun _ _ _ => 0)
  case atStart => exact ⟨rfl, rfl, rfl⟩
  case round =>
    obtain ⟨rfl, rfl, rfl⟩ := hrel
    go_wp2
    go_ret
    exact ⟨by trivial, Below.refl _ _⟩
theorem weight_e {w : World} : Calls Try.prog 99 #[.agg #[.slice none 0 0, .slice none 0 0]] w (RetV (.int .i64 0) w) := by
  go_enter Try.func99, Try.ntmps99
  go_wp2
  go_loopw [3, 4] (fun n i wr => n = .int .i64 0 ∧ i = .int .i64 0 ∧ wr = w.alloc (.cells #[.slice none 0 0, .slice none 0 0] 62)) (fun _ _ _ => 0)
  case atStart => exact ⟨rfl, rfl, rfl⟩
  case round =>
    obtain ⟨rfl, rfl, rfl⟩ := hrel
    go_wp2
    go_ret
    exact ⟨by trivial, (by repeat' (first | (with_reducible exact Below.refl _ _) | (with_reducible refine Below.alloc ?_ ?_ _) | (with_reducible refine Below.drew ?_) | (with_reducible refine below_drewN ?_ _) | (with_reducible refine Below.setCell ?_ ?_ _) | (refine via ?_ (by with_reducible assumption) ?_) | (refine via ?_ (below_ext _ _) ?_) | go_size))⟩
theorem heavy4_e {w : World} : Calls Try.prog 62 #[.agg #[.slice none 0 0, .slice none 0 0, .slice none 0 0]] w (RetV (.bool false) w) := by
  go_enter Try.func62, Try.ntmps62
  go_wp2_with fail
  refine texts_e.mono ?_
  rintro e w1 ⟨rfl, hb1⟩
  (obtain ⟨hc_w1, hf_w1⟩ := bcell hb1; have z_w1_0 : w.heap.size < w1.heap.size := (by have := hb1.size; first | omega | (simp at this; omega)))
  go_wp2
  go_ret
  exact ⟨by trivial, (by repeat' (first | (with_reducible exact Below.refl _ _) | (with_reducible refine Below.alloc ?_ ?_ _) | (with_reducible refine Below.drew ?_) | (with_reducible refine below_drewN ?_ _) | (with_reducible refine Below.setCell ?_ ?_ _) | (refine via ?_ (by with_reducible assumption) ?_) | (refine via ?_ (below_ext _ _) ?_) | go_size))⟩
theorem heavy11_e {w : World} : Calls Try.prog 63 #[.agg #[.slice none 0 0, .slice none 0 0, .slice none 0 0]] w (RetV (.bool false) w) := by
  go_enter Try.func63, Try.ntmps63
  go_wp2_with fail
  refine weight_e.mono ?_
  rintro e w1 ⟨rfl, hb1⟩
  (obtain ⟨hc_w1, hf_w1⟩ := bcell hb1; have z_w1_0 : w.heap.size < w1.heap.size := (by have := hb1.size; first | omega | (simp at this; omega)))
  go_wp2
  go_loopw [3, 4] (fun n i wr => n = .int .i64 0 ∧ i = .int .i64 0 ∧ wr = w1) (fun _ _ _ => 0)
  case atStart => exact ⟨rfl, rfl, rfl⟩
  case round =>
    obtain ⟨rfl, rfl, rfl⟩ := hrel
    go_wp2
    go_ret
    exact ⟨by trivial, (by repeat' (first | (with_reducible exact Below.refl _ _) | (with_reducible refine Below.alloc ?_ ?_ _) | (with_reducible refine Below.drew ?_) | (with_reducible refine below_drewN ?_ _) | (with_reducible refine Below.setCell ?_ ?_ _) | (refine via ?_ (by with_reducible assumption) ?_) | (refine via ?_ (below_ext _ _) ?_) | go_size))⟩
end Go.Proofs.Ytfccghfcilccfaa
