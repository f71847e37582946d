/- siloref0, silolaw0: books, slots; bounds; what is heavy; what is written over. -/
import Derived.Test.YtjeecdoffoahkaaZcr
namespace Go.Proofs.Ytjeecdoffoahkaa
open Go.RowKit Go.Silo

set_option maxHeartbeats 1000000 in
theorem EqBook_c {tg tg' : Bool} {S S' : Nat → Prop} {w : World} {A0 A1 A2 A0' A1' A2' : Option Addr} {n0 c0 n1 c1 n2 c2 n0' c0' n1' c1' n2' c2' : Nat} {x y : Book}
    (h0 : Sl tg 97 (stripeE tg) w S A0 n0 c0 x.stripes) (h1 : Sl tg 130 (entryE tg) w S A1 n1 c1 x.things) (h2 : Sl tg 133 tagE w S A2 n2 c2 x.tags)
    (h0' : Sl tg' 97 (stripeE tg') w S' A0' n0' c0' y.stripes) (h1' : Sl tg' 130 (entryE tg') w S' A1' n1' c1' y.things) (h2' : Sl tg' 133 tagE w S' A2' n2' c2' y.tags) :
    Calls Try.prog 18 #[.agg #[.slice A0 n0 c0, .slice A1 n1 c1, .slice A2 n2 c2, .int .i64 x.next], .agg #[.slice A0' n0' c0', .slice A1' n1' c1', .slice A2' n2' c2', .int .i64 y.next]] w (RetV (.bool (decide (x = y))) w) := by
  rw [show decide (x = y) = decide (x.stripes = y.stripes ∧ x.things = y.things ∧ x.tags = y.tags ∧ x.next = y.next) from decide_eq_decide.2 Book.ext_iff']
  generalize hr : decide (x.stripes = y.stripes ∧ x.things = y.things ∧ x.tags = y.tags ∧ x.next = y.next) = r
  have HR := Lib.hid hr; clear hr
  obtain ⟨xs, xt, xg, xn⟩ := x
  obtain ⟨ys, yt, yg, yn⟩ := y
  simp only at h0 h1 h2 h0' h1' h2' HR ⊢
  go_enter Try.func18, Try.ntmps18
  go_wp2_with (first
    | (go_at_call 47; refine (EqStripes_c (h0.all (by repeat' (first | (with_reducible exact Below.refl _ _) | (with_reducible refine Below.alloc ?_ ?_ _) | (with_reducible refine Below.drew ?_) | (with_reducible refine below_drewN ?_ _) | (with_reducible refine Below.setCell ?_ ?_ _) | (refine via ?_ (by with_reducible assumption) ?_) | (refine via ?_ (below_ext _ _) ?_) | go_size))) (h0'.all (by repeat' (first | (with_reducible exact Below.refl _ _) | (with_reducible refine Below.alloc ?_ ?_ _) | (with_reducible refine Below.drew ?_) | (with_reducible refine below_drewN ?_ _) | (with_reducible refine Below.setCell ?_ ?_ _) | (refine via ?_ (by with_reducible assumption) ?_) | (refine via ?_ (below_ext _ _) ?_) | go_size)))).mono ?_; rintro e w1 ⟨rfl, hb1⟩; (obtain ⟨hc_w1, hf_w1⟩ := bcell hb1; have z_w1_0 : w.heap.size < w1.heap.size := (by have := hb1.size; first | omega | (simp at this; omega)); have z_w1_1 : w.heap.size + 1 < w1.heap.size := (by have := hb1.size; first | omega | (simp at this; omega))))
    | (go_at_call 74; refine (EqEntries_c (h1.all (by repeat' (first | (with_reducible exact Below.refl _ _) | (with_reducible refine Below.alloc ?_ ?_ _) | (with_reducible refine Below.drew ?_) | (with_reducible refine below_drewN ?_ _) | (with_reducible refine Below.setCell ?_ ?_ _) | (refine via ?_ (by with_reducible assumption) ?_) | (refine via ?_ (below_ext _ _) ?_) | go_size))) (h1'.all (by repeat' (first | (with_reducible exact Below.refl _ _) | (with_reducible refine Below.alloc ?_ ?_ _) | (with_reducible refine Below.drew ?_) | (with_reducible refine below_drewN ?_ _) | (with_reducible refine Below.setCell ?_ ?_ _) | (refine via ?_ (by with_reducible assumption) ?_) | (refine via ?_ (below_ext _ _) ?_) | go_size)))).mono ?_; rintro e w2 ⟨rfl, hb2⟩; (obtain ⟨hc_w2, hf_w2⟩ := bcell hb2; have z_w2_0 : w.heap.size < w2.heap.size := (by have := hb2.size; first | omega | (simp at this; omega)); have z_w2_1 : w.heap.size + 1 < w2.heap.size := (by have := hb2.size; first | omega | (simp at this; omega))))
    | (go_at_call 75; refine (EqTags_c (h2.all (by repeat' (first | (with_reducible exact Below.refl _ _) | (with_reducible refine Below.alloc ?_ ?_ _) | (with_reducible refine Below.drew ?_) | (with_reducible refine below_drewN ?_ _) | (with_reducible refine Below.setCell ?_ ?_ _) | (refine via ?_ (by with_reducible assumption) ?_) | (refine via ?_ (below_ext _ _) ?_) | go_size))) (h2'.all (by repeat' (first | (with_reducible exact Below.refl _ _) | (with_reducible refine Below.alloc ?_ ?_ _) | (with_reducible refine Below.drew ?_) | (with_reducible refine below_drewN ?_ _) | (with_reducible refine Below.setCell ?_ ?_ _) | (refine via ?_ (by with_reducible assumption) ?_) | (refine via ?_ (below_ext _ _) ?_) | go_size)))).mono ?_; rintro e w3 ⟨rfl, hb3⟩; (obtain ⟨hc_w3, hf_w3⟩ := bcell hb3; have z_w3_0 : w.heap.size < w3.heap.size := (by have := hb3.size; first | omega | (simp at this; omega)); have z_w3_1 : w.heap.size + 1 < w3.heap.size := (by have := hb3.size; first | omega | (simp at this; omega)))))
  all_goals
    go_ret
    exact ⟨by rw [← HR.out]; first | (simp [*]; done) | (simp [*]; rw [Bool.eq_iff_iff]; simp), (by repeat' (first | (with_reducible exact Below.refl _ _) | (with_reducible refine Below.alloc ?_ ?_ _) | (with_reducible refine Below.drew ?_) | (with_reducible refine below_drewN ?_ _) | (with_reducible refine Below.setCell ?_ ?_ _) | (refine via ?_ (by with_reducible assumption) ?_) | (refine via ?_ (below_ext _ _) ?_) | go_size))⟩

/-- A call that answers a number, of which something is known. -/
def RetN (P : Int → Prop) (w : World) (e : Ending) (w' : World) : Prop := ∃ v : Int, e = .returned (.int .i64 v) ∧ P v ∧ Below w.heap.size w w'

set_option maxHeartbeats 400000 in
theorem Within_c {w : World} {i n : Int} (hi : I64 i) (h0 : 0 < n) (hn : n ≤ 1000000) : Calls Try.prog 19 #[.int .i64 i, .int .i64 n] w (RetN (fun v => 0 ≤ v ∧ v < n) w) := by
  obtain ⟨hi1, hi2⟩ := hi
  go_enter Try.func19, Try.ntmps19
  go_wp2
  go_ret
  have h1 : 0 ≤ IntKind.u64.wrap i := by rw [IntKind.wrap_u64]; omega
  have h2 : (IntKind.u64.wrap i).tmod n = (IntKind.u64.wrap i) % n := by rw [Int.tmod_eq_emod_of_nonneg h1]
  have h3 : 0 ≤ (IntKind.u64.wrap i) % n := Int.emod_nonneg _ (by omega)
  have h4 : (IntKind.u64.wrap i) % n < n := Int.emod_lt_of_pos _ h0
  refine ⟨wrap64 ((IntKind.u64.wrap i).tmod n), rfl, ?_, Below.refl _ _⟩
  rw [h2, IntWalk.wrap64_in _ ⟨by omega, by omega⟩]
  exact ⟨h3, h4⟩

set_option maxHeartbeats 400000 in
theorem Num_c {w : World} {n m : Int} : Calls Try.prog 21 #[.int .i64 n, .int .i64 m] w (RetV (.bool (decide (0 ≤ n ∧ n ≤ m))) w) := by
  go_enter Try.func21, Try.ntmps21
  go_wp2
  all_goals
    go_ret
    exact ⟨by congr 2; simp_all; try omega, Below.refl _ _⟩

set_option maxHeartbeats 400000 in
theorem Between_c {w : World} {n l m : Int} : Calls Try.prog 57 #[.int .i64 n, .int .i64 l, .int .i64 m] w (RetV (.bool (decide (l ≤ n ∧ n ≤ m))) w) := by
  go_enter Try.func57, Try.ntmps57
  go_wp2
  all_goals
    go_ret
    exact ⟨by congr 2; simp_all; try omega, Below.refl _ _⟩

end Go.Proofs.Ytjeecdoffoahkaa
