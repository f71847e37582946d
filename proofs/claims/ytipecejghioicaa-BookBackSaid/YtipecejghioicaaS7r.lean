/- The insertion sort of the library, walked. -/
import Derived.Test.YtipecejghioicaaS3r
import Derived.Deep.LoopGhost
import Derived.RegionTactic
-- from S6
-- from S5
namespace Go.Proofs.Ytipecejghioicaa
open Go.RowKit Go.Silo

theorem isNaN_c {w : World} {a : Int} : Calls Try.prog 90 #[.int .i64 a] w (RetV (.bool false) w) := by
  have h : (a != a) = false := by simp
  go_enter Try.func90, Try.ntmps90
  go_wp2
  go_ret
  exact ⟨by simp, Below.refl _ _⟩

/-- -1, 0, 1. -/
def cmp3 (a b : Int) : Int := if a < b then -1 else if b < a then 1 else 0
theorem Compare_c {w : World} {a b : Int} : Calls Try.prog 81 #[.int .i64 a, .int .i64 b] w (RetV (.int .i64 (cmp3 a b)) w) := by
  have hr : Hid (cmp3 a b = if a < b then -1 else if b < a then 1 else 0) := Lib.hid rfl
  generalize cmp3 a b = r at *
  rcases (by omega : a < b ∨ a = b ∨ b < a) with h | h | h
  · go_enter Try.func81, Try.ntmps81
    go_wp2_with (go_at_call 90; refine isNaN_c.mono ?_; rintro e w1 ⟨rfl, hb1⟩)
    go_ret
    exact ⟨by rw [hr.out, if_pos h]; rfl, (by repeat' (first | (with_reducible exact Below.refl _ _) | (with_reducible refine Below.alloc ?_ ?_ _) | (with_reducible refine Below.drew ?_) | (with_reducible refine below_drewN ?_ _) | (with_reducible refine Below.setCell ?_ ?_ _) | (refine via ?_ (by with_reducible assumption) ?_) | (refine via ?_ (below_ext _ _) ?_) | go_size))⟩
  · subst h
    go_enter Try.func81, Try.ntmps81
    go_wp2_with (go_at_call 90; refine isNaN_c.mono ?_; rintro e w1 ⟨rfl, hb1⟩)
    go_ret
    exact ⟨by rw [hr.out]; simp, (by repeat' (first | (with_reducible exact Below.refl _ _) | (with_reducible refine Below.alloc ?_ ?_ _) | (with_reducible refine Below.drew ?_) | (with_reducible refine below_drewN ?_ _) | (with_reducible refine Below.setCell ?_ ?_ _) | (refine via ?_ (by with_reducible assumption) ?_) | (refine via ?_ (below_ext _ _) ?_) | go_size))⟩
  · go_enter Try.func81, Try.ntmps81
    go_wp2_with (go_at_call 90; refine isNaN_c.mono ?_; rintro e w1 ⟨rfl, hb1⟩)
    go_ret
    exact ⟨by rw [hr.out, if_neg (by omega), if_pos h]; rfl, (by repeat' (first | (with_reducible exact Below.refl _ _) | (with_reducible refine Below.alloc ?_ ?_ _) | (with_reducible refine Below.drew ?_) | (with_reducible refine below_drewN ?_ _) | (with_reducible refine Below.setCell ?_ ?_ _) | (refine via ?_ (by with_reducible assumption) ?_) | (refine via ?_ (below_ext _ _) ?_) | go_size))⟩

end Go.Proofs.Ytipecejghioicaa
namespace Go.Proofs.Ytipecejghioicaa
open Go.RowKit Go.Silo

/-- x finds its place among those that are ahead (in turned order). -/
def insR (key : Int → Int) (x : Int) : List Int → List Int
  | [] => [x]
  | y :: ys => if key y < key x then y :: insR key x ys else x :: y :: ys
def sortR (key : Int → Int) (l : List Int) : List Int := l.foldl (fun R x => insR key x R) []
def sortBy (key : Int → Int) (l : List Int) : List Int := (sortR key l).reverse
end Go.Proofs.Ytipecejghioicaa
namespace Go.Proofs.Ytipecejghioicaa
open Go.RowKit Go.Silo

theorem cmp3_neg {a b : Int} : cmp3 a b < 0 ↔ a < b := by
  unfold cmp3
  split
  · simp [*]
  · split <;> simp [*]

end Go.Proofs.Ytipecejghioicaa
