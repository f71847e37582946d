/- How many slots are free. -/
import Derived.Test.YtfccghfcilccfaaS3
import Derived.Test.YtfccghfcilccfaaS2
namespace Go.Proofs.Ytfccghfcilccfaa
open Go.RowKit Go.Silo

/-- How many are free on live disks, of the first k. -/
def cnt (x : SlotsD) : Nat → Nat
  | 0 => 0
  | k + 1 => cnt x k + (if x.live.getD k false then (x.free.getD k []).length else 0)
theorem cnt_le (x : SlotsD) (B : Nat) (h : ∀ l ∈ x.free, l.length ≤ B) : ∀ k, k ≤ x.free.length → cnt x k ≤ k * B := by
  intro k
  induction k with
  | zero => intro _; simp [cnt]
  | succ k ih =>
    intro hk
    have h1 := ih (by omega)
    have h2 := h _ (getD_mem (d := []) (show k < x.free.length by omega))
    rw [cnt, Nat.succ_mul]
    split <;> omega

set_option maxHeartbeats 1000000 in
theorem refCount_c {tg : Bool} {S : Nat → Prop} {w : World} {A0 A1 : Option Addr} {n0 c0 n1 c1 : Nat} {x : SlotsD}
    (h0 : Sl tg 4 boolE w S A0 n0 c0 x.live) (h1 : Sl tg 52 (slE tg 3 intE) w S A1 n1 c1 x.free) (hn1 : n1 ≤ 1000000) (hn : n1 ≤ n0) (hx : ∀ l ∈ x.free, l.length ≤ 100000000) :
    Calls Try.prog 128 #[.agg #[.slice A0 n0 c0, .slice A1 n1 c1]] w (RetV (.int .i64 (cnt x n1 : Nat)) w) := by
  have HL1 := Lib.hid h1.len
  have HC := Lib.hid (cnt_le x _ hx); clear hx
  go_enter Try.func128, Try.ntmps128
  go_wp2
  go_loopw [3, 4] (fun s i wr => ∃ k : Nat, k ≤ n1 ∧ i = .int .i64 k ∧ s = .int .i64 (cnt x k : Nat) ∧ wr = w.alloc (.cells #[.slice A0 n0 c0, .slice A1 n1 c1] 62)) (fun _ i _ => n1 - (intOf i).toNat)
  case atStart => exact ⟨0, Nat.zero_le _, rfl, rfl, rfl⟩
  case round =>
    obtain ⟨k, hk, rfl, rfl, rfl⟩ := hrel
    by_cases hlt : k < n1
    · have h1' := h1.frame (Agree.alloc S w (.cells #[.slice A0 n0 c0, .slice A1 n1 c1] 62)) (by simp)
      obtain ⟨b, off, A2, n2, c2, rfl, hS, hbl, h2, hc0, _⟩ := h1.sl_at hlt
      obtain ⟨b', off', rfl, hS', hbl', hc0', _⟩ := h0.bool_at (show k < n0 by omega)
      have e2 := h2.len
      have hz := HC.out k (by have := HL1.out; omega)
      have hz2 := HC.out (k + 1) (by have := HL1.out; omega)
      generalize hr : cnt x (k + 1) = r at *
      have HR := Lib.hid hr; clear hr
      generalize hl : x.live.getD k false = v at *
      have HLV := Lib.hid hl; clear hl
      generalize hs : cnt x k = s at *
      have HS := Lib.hid hs; clear hs
      have E2 := Lib.hid e2; clear e2
      have hb1 : (b == w.heap.size) = false := by simp; omega
      cases v with
      | true =>
        have HF : Hid ((s : Int) + n2 = r) := Lib.hid (by have := HR.out; rw [cnt, HLV.out, HS.out] at this; have := E2.out; simp at *; omega)
        have hbd : s + n2 ≤ 900000000000000 := by have := HF.out; omega
        go_wp2
        go_roundw
        case rel => exact ⟨k + 1, by omega, by go_num, by rw [HR.out, ← HF.out], by trivial⟩
        case measure => simp [intOf]; omega
      | false =>
        have HF : Hid ((s : Int) = r) := Lib.hid (by have := HR.out; rw [cnt, HLV.out, HS.out] at this; simp at *; omega)
        go_wp2
        go_roundw
        case rel => exact ⟨k + 1, by omega, by go_num, by rw [HR.out, ← HF.out], by trivial⟩
        case measure => simp [intOf]; omega
    · go_wp2
      go_ret
      obtain rfl : k = n1 := by omega
      exact ⟨rfl, (by repeat' (first | (with_reducible exact Below.refl _ _) | (with_reducible refine Below.alloc ?_ ?_ _) | (with_reducible refine Below.drew ?_) | (with_reducible refine below_drewN ?_ _) | (with_reducible refine Below.setCell ?_ ?_ _) | (refine via ?_ (by with_reducible assumption) ?_) | (refine via ?_ (below_ext _ _) ?_) | go_size))⟩
end Go.Proofs.Ytfccghfcilccfaa
