/- slots.Count; what a script weighs; an error as a number. -/
import Derived.Test.YtfccghfcilccfaaT1
import Derived.Test.YtfccghfcilccfaaS4
namespace Go.Proofs.Ytfccghfcilccfaa
open Go.RowKit Go.Silo

theorem num_c {w : World} {e : Int} : Calls Try.prog 74 #[.int .i64 e] w (RetV (.int .i64 e) w) := by
  go_enter Try.func74, Try.ntmps74
  go_wp2
  go_ret
  exact ⟨rfl, (by repeat' (first | (with_reducible exact Below.refl _ _) | (with_reducible refine Below.alloc ?_ ?_ _) | (with_reducible refine Below.drew ?_) | (with_reducible refine below_drewN ?_ _) | (with_reducible refine Below.setCell ?_ ?_ _) | (refine via ?_ (by with_reducible assumption) ?_) | (refine via ?_ (below_ext _ _) ?_) | go_size))⟩

/-- What Count answers. -/
noncomputable def countR (x : SlotsD) : Int := if slotsOkB x = true then ((cnt x x.free.length : Nat) : Int) else 0

set_option maxHeartbeats 2000000 in
theorem Count_c {tg : Bool} {S : Nat → Prop} {w : World} {A0 A1 : Option Addr} {n0 c0 n1 c1 : Nat} {x : SlotsD}
    (h0 : Sl tg 4 boolE w S A0 n0 c0 x.live) (h1 : Sl tg 52 (slE tg 3 intE) w S A1 n1 c1 x.free) :
    Calls Try.prog 77 #[.agg #[.slice A0 n0 c0, .slice A1 n1 c1]] w (RetV (.tuple #[.int .i64 (countR x), .int .i64 (okErr (slotsOkB x))]) w) := by
  have HL0 := Lib.hid h0.len
  have HL1 := Lib.hid h1.len
  have HOK := Lib.hid (@slotsOk_of x)
  have HCR : Hid (countR x = if slotsOkB x = true then ((cnt x x.free.length : Nat) : Int) else 0) := Lib.hid rfl
  generalize countR x = cr at *
  generalize hr : slotsOkB x = r at *
  have HR := Lib.hid hr; clear hr
  go_enter Try.func77, Try.ntmps77
  go_wp2_with fail
  refine (slotsMay_c (h0.all (by repeat' (first | (with_reducible exact Below.refl _ _) | (with_reducible refine Below.alloc ?_ ?_ _) | (with_reducible refine Below.drew ?_) | (with_reducible refine below_drewN ?_ _) | (with_reducible refine Below.setCell ?_ ?_ _) | (refine via ?_ (by with_reducible assumption) ?_) | (refine via ?_ (below_ext _ _) ?_) | go_size))) (h1.all (by repeat' (first | (with_reducible exact Below.refl _ _) | (with_reducible refine Below.alloc ?_ ?_ _) | (with_reducible refine Below.drew ?_) | (with_reducible refine below_drewN ?_ _) | (with_reducible refine Below.setCell ?_ ?_ _) | (refine via ?_ (by with_reducible assumption) ?_) | (refine via ?_ (below_ext _ _) ?_) | go_size)))).mono ?_
  rintro e w1 ⟨rfl, hb1⟩
  rw [HR.out]
  (obtain ⟨hc_w1, hf_w1⟩ := bcell hb1; have z_w1_0 : w.heap.size < w1.heap.size := (by have := hb1.size; first | omega | (simp at this; omega)))
  cases r with
  | false =>
    go_wp2
    go_ret2
    exact ⟨by rw [HCR.out]; rfl, (by repeat' (first | (with_reducible exact Below.refl _ _) | (with_reducible refine Below.alloc ?_ ?_ _) | (with_reducible refine Below.drew ?_) | (with_reducible refine below_drewN ?_ _) | (with_reducible refine Below.setCell ?_ ?_ _) | (refine via ?_ (by with_reducible assumption) ?_) | (refine via ?_ (below_ext _ _) ?_) | go_size))⟩
  | true =>
    have hx := HOK.out rfl
    have hx2 := hx.most
    have hx3 := hx.same
    have e0 := HL0.out
    have e1 := HL1.out
    have hn0 : n0 ≤ 12 := by omega
    have hn1 : n1 = n0 := by omega
    have HC : Hid (∀ k, k ≤ n1 → cnt x k ≤ k * 64) := Lib.hid (fun k hk => cnt_le x 64 (fun l hl => pigeon (hx.free l hl)) k (by omega))
    have HCF : Hid (cr = (cnt x n1 : Nat)) := Lib.hid (by rw [HCR.out, if_pos rfl, e1])
    clear hx hx2 hx3 e0 e1 HOK
    subst hn1
    go_wp2_with fail
    go_loopw [4, 5, 6, 13] (fun s _ _ i wr => ∃ k : Nat, k ≤ n1 ∧ i = .int .i64 k ∧ s = .int .i64 (cnt x k : Nat) ∧ wr = w1) (fun _ _ _ i _ => n1 - (intOf i).toNat)
    case atStart => exact ⟨0, Nat.zero_le _, rfl, rfl, by trivial⟩
    case round =>
      obtain ⟨k, hk, rfl, rfl, rfl⟩ := hrel
      by_cases hlt : k < n1
      · obtain ⟨b, off, A2, n2, c2, rfl, hS, hbl, h2, hc0, _⟩ := (h1.all (w' := wr) (by repeat' (first | (with_reducible exact Below.refl _ _) | (with_reducible refine Below.alloc ?_ ?_ _) | (with_reducible refine Below.drew ?_) | (with_reducible refine below_drewN ?_ _) | (with_reducible refine Below.setCell ?_ ?_ _) | (refine via ?_ (by with_reducible assumption) ?_) | (refine via ?_ (below_ext _ _) ?_) | go_size))).sl_at hlt
        obtain ⟨b', off', rfl, hS', hbl', hc0', _⟩ := (h0.all (w' := wr) (by repeat' (first | (with_reducible exact Below.refl _ _) | (with_reducible refine Below.alloc ?_ ?_ _) | (with_reducible refine Below.drew ?_) | (with_reducible refine below_drewN ?_ _) | (with_reducible refine Below.setCell ?_ ?_ _) | (refine via ?_ (by with_reducible assumption) ?_) | (refine via ?_ (below_ext _ _) ?_) | go_size))).bool_at hlt
        have e2 := h2.len
        have hz := HC.out k (by omega)
        have hz2 := HC.out (k + 1) (by omega)
        generalize hr : cnt x (k + 1) = r at *
        have HR2 := Lib.hid hr; clear hr
        generalize hl : x.live.getD k false = v at *
        have HLV := Lib.hid hl; clear hl
        generalize hs : cnt x k = s at *
        have HS := Lib.hid hs; clear hs
        have E2 := Lib.hid e2; clear e2
        cases v with
        | true =>
          have HF : Hid ((s : Int) + n2 = r) := Lib.hid (by have := HR2.out; rw [cnt, HLV.out, HS.out] at this; have := E2.out; simp at *; omega)
          have hbd : s + n2 ≤ 900000000000000 := by have := HF.out; omega
          go_wp2
          go_roundw
          case rel => exact ⟨k + 1, by omega, by go_num, by rw [HR2.out, ← HF.out], by trivial⟩
          case measure => simp [intOf]; omega
        | false =>
          have HF : Hid ((s : Int) = r) := Lib.hid (by have := HR2.out; rw [cnt, HLV.out, HS.out] at this; simp at *; omega)
          go_wp2
          go_roundw
          case rel => exact ⟨k + 1, by omega, by go_num, by rw [HR2.out, ← HF.out], by trivial⟩
          case measure => simp [intOf]; omega
      · go_wp2
        go_ret2
        obtain rfl : k = n1 := by omega
        exact ⟨by rw [HCF.out]; rfl, (by repeat' (first | (with_reducible exact Below.refl _ _) | (with_reducible refine Below.alloc ?_ ?_ _) | (with_reducible refine Below.drew ?_) | (with_reducible refine below_drewN ?_ _) | (with_reducible refine Below.setCell ?_ ?_ _) | (refine via ?_ (by with_reducible assumption) ?_) | (refine via ?_ (below_ext _ _) ?_) | go_size))⟩

/-- Some number, and nothing of old is turned. -/
def RetSome (w : World) (e : Ending) (w' : World) : Prop := ∃ v : Int, e = .returned (.int .i64 v) ∧ Below w.heap.size w w'
def RetBool (w : World) (e : Ending) (w' : World) : Prop := ∃ v : Bool, e = .returned (.bool v) ∧ Below w.heap.size w w'

set_option maxHeartbeats 2000000 in
theorem SlotsWeight_any {tg : Bool} {S : Nat → Prop} {w : World} {A0 A1 : Option Addr} {n0 c0 n1 c1 : Nat} {x : SlotsD}
    (h0 : Sl tg 4 boolE w S A0 n0 c0 x.live) (h1 : Sl tg 52 (slE tg 3 intE) w S A1 n1 c1 x.free) :
    Calls Try.prog 99 #[.agg #[.slice A0 n0 c0, .slice A1 n1 c1]] w (RetSome w) := by
  have hcap0 : n0 ≤ 9223372036854775807 := Nat.le_trans h0.le h0.cap
  have hcap1 : n1 ≤ 9223372036854775807 := Nat.le_trans h1.le h1.cap
  go_enter Try.func99, Try.ntmps99
  go_wp2
  go_loopw [3, 4] (fun s i wr => ∃ k : Nat, ∃ v : Int, k ≤ n1 ∧ i = .int .i64 k ∧ s = .int .i64 v ∧ wr = w.alloc (.cells #[.slice A0 n0 c0, .slice A1 n1 c1] 62)) (fun _ i _ => n1 - (intOf i).toNat)
  case atStart => exact ⟨0, _, Nat.zero_le _, rfl, rfl, rfl⟩
  case round =>
    obtain ⟨k, v, hk, rfl, rfl, rfl⟩ := hrel
    by_cases hlt : k < n1
    · obtain ⟨b, off, A2, n2, c2, rfl, hS, hbl, h2, hc0, _⟩ := (h1.all (w' := w.alloc (.cells #[.slice A0 n0 c0, .slice A1 n1 c1] 62)) (by repeat' (first | (with_reducible exact Below.refl _ _) | (with_reducible refine Below.alloc ?_ ?_ _) | (with_reducible refine Below.drew ?_) | (with_reducible refine below_drewN ?_ _) | (with_reducible refine Below.setCell ?_ ?_ _) | (refine via ?_ (by with_reducible assumption) ?_) | (refine via ?_ (below_ext _ _) ?_) | go_size))).sl_at hlt
      by_cases hv : v < 1048576
      · go_wp2
        go_roundw
        case rel => exact ⟨k + 1, _, by omega, by go_num, rfl, by trivial⟩
        case measure => simp [intOf]; omega
      · go_wp2
        go_ret
        exact ⟨_, rfl, (by repeat' (first | (with_reducible exact Below.refl _ _) | (with_reducible refine Below.alloc ?_ ?_ _) | (with_reducible refine Below.drew ?_) | (with_reducible refine below_drewN ?_ _) | (with_reducible refine Below.setCell ?_ ?_ _) | (refine via ?_ (by with_reducible assumption) ?_) | (refine via ?_ (below_ext _ _) ?_) | go_size))⟩
    · go_wp2
      go_ret
      exact ⟨_, rfl, (by repeat' (first | (with_reducible exact Below.refl _ _) | (with_reducible refine Below.alloc ?_ ?_ _) | (with_reducible refine Below.drew ?_) | (with_reducible refine below_drewN ?_ _) | (with_reducible refine Below.setCell ?_ ?_ _) | (refine via ?_ (by with_reducible assumption) ?_) | (refine via ?_ (below_ext _ _) ?_) | go_size))⟩

set_option maxHeartbeats 2000000 in
theorem Heavy_any {tg tg1 : Bool} {T : TypeId} {S : Nat → Prop} {w : World} {A0 A1 A2 : Option Addr} {n0 c0 n1 c1 n2 c2 : Nat} {x : SlotsD} {l : List ActD}
    (h0 : Sl tg 4 boolE w S A0 n0 c0 x.live) (h1 : Sl tg 52 (slE tg 3 intE) w S A1 n1 c1 x.free) (h2 : Sl tg T (actDE tg1) w S A2 n2 c2 l) :
    Calls Try.prog 63 #[.agg #[.slice A0 n0 c0, .slice A1 n1 c1, .slice A2 n2 c2]] w (RetBool w) := by
  have hcap2 : n2 ≤ 9223372036854775807 := Nat.le_trans h2.le h2.cap
  go_enter Try.func63, Try.ntmps63
  go_wp2_with fail
  refine (SlotsWeight_any (h0.all (by repeat' (first | (with_reducible exact Below.refl _ _) | (with_reducible refine Below.alloc ?_ ?_ _) | (with_reducible refine Below.drew ?_) | (with_reducible refine below_drewN ?_ _) | (with_reducible refine Below.setCell ?_ ?_ _) | (refine via ?_ (by with_reducible assumption) ?_) | (refine via ?_ (below_ext _ _) ?_) | go_size))) (h1.all (by repeat' (first | (with_reducible exact Below.refl _ _) | (with_reducible refine Below.alloc ?_ ?_ _) | (with_reducible refine Below.drew ?_) | (with_reducible refine below_drewN ?_ _) | (with_reducible refine Below.setCell ?_ ?_ _) | (refine via ?_ (by with_reducible assumption) ?_) | (refine via ?_ (below_ext _ _) ?_) | go_size)))).mono ?_
  rintro e w1 ⟨v0, rfl, hb1⟩
  (obtain ⟨hc_w1, hf_w1⟩ := bcell hb1; have z_w1_0 : w.heap.size < w1.heap.size := (by have := hb1.size; first | omega | (simp at this; omega)))
  go_wp2_with fail
  go_loopw [3, 4] (fun s i wr => ∃ k : Nat, ∃ v : Int, k ≤ n2 ∧ i = .int .i64 k ∧ s = .int .i64 v ∧ wr = w1) (fun _ i _ => n2 - (intOf i).toNat)
  case atStart => exact ⟨0, _, Nat.zero_le _, rfl, rfl, by trivial⟩
  case round =>
    obtain ⟨k, v, hk, rfl, rfl, rfl⟩ := hrel
    by_cases hlt : k < n2
    · obtain ⟨b, off, A6, n6, c6, rfl, hS, hbl, q0, q1, q2, q3, q4, q5, p0, p1, p2, p3, p4, p5, p6, _⟩ := (h2.all (w' := wr) (by repeat' (first | (with_reducible exact Below.refl _ _) | (with_reducible refine Below.alloc ?_ ?_ _) | (with_reducible refine Below.drew ?_) | (with_reducible refine below_drewN ?_ _) | (with_reducible refine Below.setCell ?_ ?_ _) | (refine via ?_ (by with_reducible assumption) ?_) | (refine via ?_ (below_ext _ _) ?_) | go_size))).actD_at hlt
      by_cases hv : v < 1048576
      · go_wp2
        go_roundw
        case rel => exact ⟨k + 1, _, by omega, by go_num, rfl, by trivial⟩
        case measure => simp [intOf]; omega
      · go_wp2
        go_ret
        exact ⟨_, rfl, (by repeat' (first | (with_reducible exact Below.refl _ _) | (with_reducible refine Below.alloc ?_ ?_ _) | (with_reducible refine Below.drew ?_) | (with_reducible refine below_drewN ?_ _) | (with_reducible refine Below.setCell ?_ ?_ _) | (refine via ?_ (by with_reducible assumption) ?_) | (refine via ?_ (below_ext _ _) ?_) | go_size))⟩
    · go_wp2
      go_ret
      exact ⟨_, rfl, (by repeat' (first | (with_reducible exact Below.refl _ _) | (with_reducible refine Below.alloc ?_ ?_ _) | (with_reducible refine Below.drew ?_) | (with_reducible refine below_drewN ?_ _) | (with_reducible refine Below.setCell ?_ ?_ _) | (refine via ?_ (by with_reducible assumption) ?_) | (refine via ?_ (below_ext _ _) ?_) | go_size))⟩
end Go.Proofs.Ytfccghfcilccfaa
