/- silolaw18: num, Heavy, wakes; silolaw0.Within, by its number. -/
import Derived.Test.YtfccghfcilccfaaR7
import Derived.Test.YtfccghfcilccfaaP6
import Derived.Test.YtfccghfcilccfaaA1
import Derived.Test.YtfccghfcilccfaaH1
import Derived.Test.YtfccghfcilccfaaL4
import Derived.Deep.Cut
namespace Go.Proofs.Ytfccghfcilccfaa
open Go.RowKit Go.Silo

theorem num18_c {w : World} {e : Int} : Calls Try.prog 37 #[.int .i64 e] w (RetV (.int .i64 e) w) := by
  go_enter Try.func37, Try.ntmps37
  go_wp2
  go_ret
  exact ⟨rfl, (by repeat' (first | (with_reducible exact Below.refl _ _) | (with_reducible refine Below.alloc ?_ ?_ _) | (with_reducible refine Below.drew ?_) | (with_reducible refine below_drewN ?_ _) | (with_reducible refine Below.setCell ?_ ?_ _) | (refine via ?_ (by with_reducible assumption) ?_) | (refine via ?_ (below_ext _ _) ?_) | go_size))⟩

/-- What Within answers. -/
def withinZ (i n : Int) : Int := (IntKind.u64.wrap i) % n
theorem withinZ_ge {i n : Int} (h : 0 < n) : 0 ≤ withinZ i n ∧ withinZ i n < n := ⟨Int.emod_nonneg _ (by omega), Int.emod_lt_of_pos _ h⟩
set_option maxHeartbeats 400000 in
theorem WithinZ_c {w : World} {i n : Int} (hi : I64 i) (h0 : 0 < n) (hn : n ≤ 1000000) : Calls Try.prog 28 #[.int .i64 i, .int .i64 n] w (RetV (.int .i64 (withinZ i n)) w) := by
  obtain ⟨hi1, hi2⟩ := hi
  go_enter Try.func28, Try.ntmps28
  go_wp2
  go_ret
  have h1 : 0 ≤ IntKind.u64.wrap i := by rw [IntKind.wrap_u64]; omega
  have h2 : (IntKind.u64.wrap i).tmod n = (IntKind.u64.wrap i) % n := by rw [Int.tmod_eq_emod_of_nonneg h1]
  have h3 : 0 ≤ (IntKind.u64.wrap i) % n := Int.emod_nonneg _ (by omega)
  have h4 : (IntKind.u64.wrap i) % n < n := Int.emod_lt_of_pos _ h0
  refine ⟨?_, Below.refl _ _⟩
  show Ending.returned (.int .i64 (wrap64 ((IntKind.u64.wrap i).tmod n))) = _
  rw [h2, IntWalk.wrap64_in _ ⟨by omega, by omega⟩]
  rfl

/-- An ask that is played. -/
def LightF (p : AskF) : Prop := p.s.length ≤ 50 ∧ p.x.live.length ≤ 2000 ∧ p.x.free.length ≤ 2000 ∧ ∀ r ∈ p.x.free, r.length ≤ 2000
def RetHeavy18 (p : AskF) (w : World) (e : Ending) (w' : World) : Prop := ∃ v : Bool, e = .returned (.bool v) ∧ Below w.heap.size w w' ∧ (v = false → LightF p)
set_option maxRecDepth 100000 in
set_option maxHeartbeats 4000000 in
theorem Heavy18_c {S : Nat → Prop} {w : World} {p : AskF} {As A0 A1 : Option Addr} {ns cs n0 c0 n1 c1 : Nat} (hB : AskFB p) (h : AskFR w S p As ns cs A0 n0 c0 A1 n1 c1) :
    Calls Try.prog 34 #[.agg #[.slice As ns cs, .slice A0 n0 c0, .slice A1 n1 c1, .int .i64 p.n]] w (RetHeavy18 p w) := by
  have HLS := Lib.hid h.s.len
  have HSW := Lib.hid (fun W (hW : Below w.heap.size w W) => SlotsWeight_b (w := W) hB.2 (h.x0.all hW) (h.x1.all hW))
  clear hB h
  go_enter Try.func34, Try.ntmps34
  by_cases hn : 50 < (ns : Int)
  · go_wp2
    go_ret
    exact ⟨true, rfl, (by repeat' (first | (with_reducible exact Below.refl _ _) | (with_reducible refine Below.alloc ?_ ?_ _) | (with_reducible refine Below.drew ?_) | (with_reducible refine below_drewN ?_ _) | (with_reducible refine Below.setCell ?_ ?_ _) | (refine via ?_ (by with_reducible assumption) ?_) | (refine via ?_ (below_ext _ _) ?_) | go_size)), fun h => by cases h⟩
  · go_wp2_with fail
    refine (HSW.out _ (by repeat' (first | (with_reducible exact Below.refl _ _) | (with_reducible refine Below.alloc ?_ ?_ _) | (with_reducible refine Below.drew ?_) | (with_reducible refine below_drewN ?_ _) | (with_reducible refine Below.setCell ?_ ?_ _) | (refine via ?_ (by with_reducible assumption) ?_) | (refine via ?_ (below_ext _ _) ?_) | go_size))).mono ?_
    rintro e w1 ⟨v, rfl, hb1, v1, v2, v3⟩
    go_wp2
    go_ret
    refine ⟨decide (2000 < v), rfl, (by repeat' (first | (with_reducible exact Below.refl _ _) | (with_reducible refine Below.alloc ?_ ?_ _) | (with_reducible refine Below.drew ?_) | (with_reducible refine below_drewN ?_ _) | (with_reducible refine Below.setCell ?_ ?_ _) | (refine via ?_ (by with_reducible assumption) ?_) | (refine via ?_ (below_ext _ _) ?_) | go_size)), fun h => ?_⟩
    have h2 : ¬ 2000 < v := of_decide_eq_false h
    have h3 := HLS.out
    exact ⟨by omega, by omega, by omega, fun r hr => by have := v3 (by omega) r hr; omega⟩

theorem new21_ok : SlotsOk (newX 2 1) := ⟨by decide, by decide, rfl, fun l hl => by
  have : l = upto 1 := by simpa [newX] using hl
  subst this
  intro j hj
  have hj2 : j < 1 := hj
  obtain rfl : j = 0 := by omega
  exact ⟨by decide, by decide, by decide⟩⟩
theorem text18 : ∃ y, textR ⟨1, 1, 4⟩ (newX 2 1) 3 = ([[⟨0, 0⟩, ⟨1, 0⟩]], y, 0) := by
  have hl : layR (newX 2 1) ((1 : Int) + 1).toNat (manyX ⟨1, 1, 4⟩ 3) = ([[⟨0, 0⟩, ⟨1, 0⟩]], 0) := by decide
  exact ⟨_, by rw [textR_ok ⟨by decide, slotsOkB_true new21_ok, by decide, by decide⟩ (by rw [hl]), hl]⟩
set_option maxRecDepth 100000 in
set_option maxHeartbeats 4000000 in
theorem wakes18_c {w : World} : Calls Try.prog 41 #[] w (RetV (.bool true) w) := by
  obtain ⟨y, hy⟩ := text18
  have HT := Lib.hid (fun (W : World) (S : Nat → Prop) (A0 A1 : Option Addr) (n0 c0 n1 c1 : Nat) (h0 : Sl true 4 boolE W S A0 n0 c0 (newX 2 1).live) (h1 : Sl true 52 (slE true 3 intE) W S A1 n1 c1 (newX 2 1).free) =>
    hy ▸ Text_c (w := W) (s := ⟨1, 1, 4⟩) (n := 3) (by unfold I64; omega) h0 h1)
  clear hy
  go_enter Try.func41, Try.ntmps41
  go_wp2_with fail
  refine (refNew_c (d := 2) (n := 1) (by omega) (by omega)).mono ?_
  rintro e w1 ⟨vs, rfl, ⟨A0, n0, c0, A1, n1, c1, rfl, _, s0, s1⟩, hb1⟩
  have HTT := Lib.hid (HT.out _ _ _ _ _ _ _ _ s0 s1); clear s0 s1 HT
  go_wp2_with fail
  refine HTT.out.mono ?_
  clear HTT
  rintro e w2 ⟨A, n, c, B0, m0, d0, B1, m1, d1, rfl, sl, _, _, hb2⟩
  obtain rfl : n = 1 := by have := sl.len; simpa using this.symm
  obtain ⟨b, o, Ar, nr, cr, rfl, _, hbl, hrow, l1, fz1⟩ := sl.sl_at (k := 0) (by omega)
  obtain rfl : nr = 2 := by have := hrow.len; simpa using this.symm
  clear hrow
  have HB2 := Lib.hid (hb1.trans (hb2.mono hb1.size)); clear hb1 hb2 sl
  go_upto_region 2 with (fail)
  have hal : Below w2.heap.size w2 (w2.alloc (.cells #[.slice B0 m0 d0, .slice B1 m1 d1] 62)) := (Below.refl _ _).alloc (Nat.le_refl _) _
  have HB3 := Lib.hid (HB2.out.trans (hal.mono HB2.out.size))
  have q1 := (hal.cell (p := ⟨b, o + 0, none⟩) hbl).trans l1
  rw [Nat.add_zero] at q1
  have hl3 : b < (w2.alloc (.cells #[.slice B0 m0 d0, .slice B1 m1 d1] 62)).heap.size := by have := hal.size; omega
  clear l1 fz1 hal HB2 hbl
  generalize (w2.alloc (.cells #[.slice B0 m0 d0, .slice B1 m1 d1] 62)) = w3 at *
  go_wp2_with fail
  refine num18_c.mono ?_
  rintro e w4 ⟨rfl, hb4⟩
  have HB4 := Lib.hid (HB3.out.trans (hb4.mono HB3.out.size))
  have q2 := (hb4.cell (p := ⟨b, o, none⟩) hl3).trans q1
  clear hb4 q1 HB3 hl3
  go_wp2
  go_ret
  exact ⟨by trivial, HB4.out⟩
end Go.Proofs.Ytfccghfcilccfaa
