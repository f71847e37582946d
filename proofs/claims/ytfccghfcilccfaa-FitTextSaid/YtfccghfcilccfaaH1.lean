/- silolaw11.Heavy: where it is false, all lists are short. -/
import Derived.Test.YtfccghfcilccfaaT7
import Derived.Test.YtfccghfcilccfaaL2
namespace Go.Proofs.Ytfccghfcilccfaa
open Go.RowKit Go.Silo

def RetWt (x : SlotsD) (w : World) (e : Ending) (w' : World) : Prop :=
  ∃ v : Int, e = .returned (.int .i64 v) ∧ Below w.heap.size w w' ∧ (x.live.length : Int) + x.free.length ≤ v ∧ v ≤ 900000000000000 ∧ (v < 1048576 → ∀ l ∈ x.free, (l.length : Int) ≤ v)

set_option maxHeartbeats 2000000 in
theorem SlotsWeight_b {tg : Bool} {S : Nat → Prop} {w : World} {A0 A1 : Option Addr} {n0 c0 n1 c1 : Nat} {x : SlotsD} (hB : SlotsB x)
    (h0 : Sl tg 4 boolE w S A0 n0 c0 x.live) (h1 : Sl tg 52 (slE tg 3 intE) w S A1 n1 c1 x.free) :
    Calls Try.prog 99 #[.agg #[.slice A0 n0 c0, .slice A1 n1 c1]] w (RetWt x w) := by
  have HL0 := Lib.hid h0.len
  have HL1 := Lib.hid h1.len
  have hr : reachBytes = 140737488351232 := by decide
  have hn0 : n0 ≤ 140737488351232 := by have := hB.1; have := HL0.out; omega
  have hn1 : n1 ≤ 140737488351232 := by have := hB.2.1; have := HL1.out; omega
  have HB := Lib.hid (fun l hl => (hr ▸ hB.2.2 l hl : l.length ≤ 140737488351232)); clear hB hr
  go_enter Try.func99, Try.ntmps99
  go_wp2
  go_loopw [3, 4] (fun s i wr => ∃ k : Nat, ∃ v : Int, k ≤ n1 ∧ i = .int .i64 k ∧ s = .int .i64 v ∧ (n0 : Int) + n1 ≤ v ∧ v ≤ 900000000000000 ∧ Hid (∀ j, j < k → ((x.free.getD j []).length : Int) ≤ v) ∧ wr = w.alloc (.cells #[.slice A0 n0 c0, .slice A1 n1 c1] 62)) (fun _ i _ => n1 - (intOf i).toNat)
  case atStart => exact ⟨0, _, Nat.zero_le _, rfl, rfl, by omega, by omega, Lib.hid (fun j hj => by omega), rfl⟩
  case round =>
    obtain ⟨k, v, hk, rfl, rfl, hv1, hv2, HV, rfl⟩ := hrel
    by_cases hlt : k < n1
    · obtain ⟨b, off, A2, n2, c2, rfl, hS, hbl, h2, hc0, _⟩ := (h1.all (w' := w.alloc (.cells #[.slice A0 n0 c0, .slice A1 n1 c1] 62)) (by repeat' (first | (with_reducible exact Below.refl _ _) | (with_reducible refine Below.alloc ?_ ?_ _) | (with_reducible refine Below.drew ?_) | (with_reducible refine below_drewN ?_ _) | (with_reducible refine Below.setCell ?_ ?_ _) | (refine via ?_ (by with_reducible assumption) ?_) | (refine via ?_ (below_ext _ _) ?_) | go_size))).sl_at hlt
      by_cases hv : v < 1048576
      · have hn2 : n2 ≤ 140737488351232 := by
          have := HB.out _ (getD_mem (d := []) (show k < x.free.length by have := HL1.out; omega))
          have := h2.len; omega
        have HN2 := Lib.hid h2.len
        clear h2
        go_wp2
        go_roundw
        case rel => exact ⟨k + 1, _, by omega, by go_num, rfl, by omega, by omega, Lib.hid (fun j hj => by
          rcases Nat.lt_or_ge j k with h | h
          · have := HV.out j h; omega
          · obtain rfl : j = k := by omega
            have := HN2.out; omega), by trivial⟩
        case measure => simp [intOf]; omega
      · go_wp2
        go_ret
        exact ⟨_, rfl, (by repeat' (first | (with_reducible exact Below.refl _ _) | (with_reducible refine Below.alloc ?_ ?_ _) | (with_reducible refine Below.drew ?_) | (with_reducible refine below_drewN ?_ _) | (with_reducible refine Below.setCell ?_ ?_ _) | (refine via ?_ (by with_reducible assumption) ?_) | (refine via ?_ (below_ext _ _) ?_) | go_size)), by rw [HL0.out, HL1.out]; exact hv1, hv2, fun h => by omega⟩
    · go_wp2
      go_ret
      exact ⟨_, rfl, (by repeat' (first | (with_reducible exact Below.refl _ _) | (with_reducible refine Below.alloc ?_ ?_ _) | (with_reducible refine Below.drew ?_) | (with_reducible refine below_drewN ?_ _) | (with_reducible refine Below.setCell ?_ ?_ _) | (refine via ?_ (by with_reducible assumption) ?_) | (refine via ?_ (below_ext _ _) ?_) | go_size)), by rw [HL0.out, HL1.out]; exact hv1, hv2, fun _ l hl => by
        obtain ⟨j, hj⟩ := List.mem_iff_getElem?.1 hl
        have hjl := (List.getElem?_eq_some_iff.1 hj).1
        have := HV.out j (by have := HL1.out; omega)
        rw [List.getD_eq_getElem?_getD, hj] at this
        exact this⟩

def LightS (x : SlotsD) (l : List ActD) : Prop := (x.live.length ≤ 3000 ∧ x.free.length ≤ 3000 ∧ ∀ r ∈ x.free, r.length ≤ 3000) ∧ l.length ≤ 3000 ∧ ∀ a ∈ l, a.l.length ≤ 3000
def RetHeavy (x : SlotsD) (l : List ActD) (w : World) (e : Ending) (w' : World) : Prop := ∃ v : Bool, e = .returned (.bool v) ∧ Below w.heap.size w w' ∧ (v = false → LightS x l)

set_option maxHeartbeats 2000000 in
theorem Heavy_b {tg tg1 : Bool} {T : TypeId} {S : Nat → Prop} {w : World} {A0 A1 A2 : Option Addr} {n0 c0 n1 c1 n2 c2 : Nat} {x : SlotsD} {l : List ActD} (hB : ScriptB x l)
    (h0 : Sl tg 4 boolE w S A0 n0 c0 x.live) (h1 : Sl tg 52 (slE tg 3 intE) w S A1 n1 c1 x.free) (h2 : Sl tg T (actDE tg1) w S A2 n2 c2 l) :
    Calls Try.prog 63 #[.agg #[.slice A0 n0 c0, .slice A1 n1 c1, .slice A2 n2 c2]] w (RetHeavy x l w) := by
  have HL2 := Lib.hid h2.len
  have hr : reachBytes = 140737488351232 := by decide
  have hn2 : n2 ≤ 140737488351232 := by have := hB.2.1; have := HL2.out; omega
  have HB := Lib.hid (fun (a : ActD) (ha : a ∈ l) => (by have h := hB.2.2 a ha; unfold ActB at h; omega : a.l.length ≤ 140737488351232)); clear hr
  go_enter Try.func63, Try.ntmps63
  go_wp2_with fail
  refine (SlotsWeight_b hB.1 (h0.all (by repeat' (first | (with_reducible exact Below.refl _ _) | (with_reducible refine Below.alloc ?_ ?_ _) | (with_reducible refine Below.drew ?_) | (with_reducible refine below_drewN ?_ _) | (with_reducible refine Below.setCell ?_ ?_ _) | (refine via ?_ (by with_reducible assumption) ?_) | (refine via ?_ (below_ext _ _) ?_) | go_size))) (h1.all (by repeat' (first | (with_reducible exact Below.refl _ _) | (with_reducible refine Below.alloc ?_ ?_ _) | (with_reducible refine Below.drew ?_) | (with_reducible refine below_drewN ?_ _) | (with_reducible refine Below.setCell ?_ ?_ _) | (refine via ?_ (by with_reducible assumption) ?_) | (refine via ?_ (below_ext _ _) ?_) | go_size)))).mono ?_
  clear hB
  rintro e w1 ⟨v0, rfl, hb1, hv0, hv1, hv2⟩
  have HV0 := Lib.hid hv0; clear hv0
  have HV2 := Lib.hid hv2; clear hv2
  have hv00 : 0 ≤ v0 := by have := HV0.out; omega
  (obtain ⟨hc_w1, hf_w1⟩ := bcell hb1; have z_w1_0 : w.heap.size < w1.heap.size := (by have := hb1.size; first | omega | (simp at this; omega)))
  go_wp2_with fail
  go_loopw [3, 4] (fun s i wr => ∃ k : Nat, ∃ v : Int, k ≤ n2 ∧ i = .int .i64 k ∧ s = .int .i64 v ∧ v0 ≤ v ∧ (k : Int) ≤ v ∧ v ≤ 1800000000000000 ∧ Hid (∀ j a, j < k → l[j]? = some a → (a.l.length : Int) ≤ v) ∧ wr = w1) (fun _ i _ => n2 - (intOf i).toNat)
  case atStart => exact ⟨0, _, Nat.zero_le _, rfl, rfl, Int.le_refl _, by omega, by omega, Lib.hid (fun j a hj => by omega), by trivial⟩
  case round =>
    obtain ⟨k, v, hk, rfl, rfl, hva, hvb, hvc, HV, rfl⟩ := hrel
    by_cases hlt : k < n2
    · obtain ⟨b, off, A6, n6, c6, rfl, hS, hbl, q0, q1, q2, q3, q4, q5, p0, p1, p2, p3, p4, p5, p6, _⟩ := (h2.all (w' := wr) (by repeat' (first | (with_reducible exact Below.refl _ _) | (with_reducible refine Below.alloc ?_ ?_ _) | (with_reducible refine Below.drew ?_) | (with_reducible refine below_drewN ?_ _) | (with_reducible refine Below.setCell ?_ ?_ _) | (refine via ?_ (by with_reducible assumption) ?_) | (refine via ?_ (below_ext _ _) ?_) | go_size))).actD_at hlt
      by_cases hv : v < 1048576
      · have HL6 := Lib.hid q5.len
        have hn6 : n6 ≤ 140737488351232 := by
          have := HB.out _ (getD_mem (d := default) (show k < l.length by have := HL2.out; omega))
          have := HL6.out; omega
        clear q5
        go_wp2
        go_roundw
        case rel => exact ⟨k + 1, _, by omega, by go_num, rfl, by omega, by omega, by omega, Lib.hid (fun j a hj hja => by
          rcases Nat.lt_or_ge j k with h | h
          · have := HV.out j a h hja; omega
          · obtain rfl : j = k := by omega
            have h6 := HL6.out
            rw [List.getD_eq_getElem?_getD, hja] at h6
            have h7 : a.l.length = n6 := h6
            omega), by trivial⟩
        case measure => simp [intOf]; omega
      · go_wp2
        go_ret
        exact ⟨_, rfl, (by repeat' (first | (with_reducible exact Below.refl _ _) | (with_reducible refine Below.alloc ?_ ?_ _) | (with_reducible refine Below.drew ?_) | (with_reducible refine below_drewN ?_ _) | (with_reducible refine Below.setCell ?_ ?_ _) | (refine via ?_ (by with_reducible assumption) ?_) | (refine via ?_ (below_ext _ _) ?_) | go_size)), fun h => by exfalso; simp at h; omega⟩
    · go_wp2
      go_ret
      exact ⟨_, rfl, (by repeat' (first | (with_reducible exact Below.refl _ _) | (with_reducible refine Below.alloc ?_ ?_ _) | (with_reducible refine Below.drew ?_) | (with_reducible refine below_drewN ?_ _) | (with_reducible refine Below.setCell ?_ ?_ _) | (refine via ?_ (by with_reducible assumption) ?_) | (refine via ?_ (below_ext _ _) ?_) | go_size)), fun h => by
        have h3 : v ≤ 3000 := by simpa using h
        have hv0 := HV0.out
        refine ⟨⟨by omega, by omega, fun r hr => by have := HV2.out (by omega) r hr; omega⟩, by have := HL2.out; omega, fun a ha => ?_⟩
        obtain ⟨j, hj⟩ := List.mem_iff_getElem?.1 ha
        have hjl := (List.getElem?_eq_some_iff.1 hj).1
        have := HV.out j a (by have := HL2.out; omega) hj
        omega⟩
end Go.Proofs.Ytfccghfcilccfaa
