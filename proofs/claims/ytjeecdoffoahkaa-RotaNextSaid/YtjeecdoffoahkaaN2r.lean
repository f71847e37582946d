/- siloref16.At, Cursor, Next; rota.Behind, round. -/
import Derived.Test.YtjeecdoffoahkaaN1r
import Derived.Test.YtjeecdoffoahkaaB6r
import Derived.Test.YtjeecdoffoahkaaE8r
import Derived.Deep.CutBlock
import Derived.Deep.Cut
namespace Go.Silo
open Go Go.RowKit
/-- A region with one step that stores, behind all that read. -/
inductive Wd1 (V : World) (i : Nat) (V' : World) : List (Nat × Value) → World → Prop
  | pre : Wd1 V i V' [] V
  | post {x : Value} : Wd1 V i V' [(i, x)] V'
theorem Wd1.early {V V' W : World} {i : Nat} {us : List (Nat × Value)} (h : Wd1 V i V' us W) (hn : i ∉ us.map Prod.fst) : us = [] ∧ W = V := by
  cases h with
  | pre => exact ⟨rfl, rfl⟩
  | post => exact absurd (by simp) hn
theorem Wd1.done {V V' W : World} {i : Nat} {us : List (Nat × Value)} (h : Wd1 V i V' us W) (hm : i ∈ us.map Prod.fst) : W = V' := by
  cases h with
  | pre => simp at hm
  | post => rfl
end Go.Silo
namespace Go.Proofs.Ytjeecdoffoahkaa
open Go.RowKit Go.Silo

set_option maxHeartbeats 1000000 in
theorem At_c {tg tg1 : Bool} {T : TypeId} {S : Nat → Prop} {w : World} {A : Option Addr} {n c : Nat} {l : List Stripe} {x : Int} (h : Sl tg T (stripeE tg1) w S A n c l) :
    Calls Try.prog 24 #[.slice A n c, .int .i64 x] w (RetV (.int .i64 (atX l x)) w) := by
  have HL := Lib.hid h.len
  have hcap : n ≤ 9223372036854775807 := Nat.le_trans h.le h.cap
  go_enter Try.func24, Try.ntmps24
  go_wp2_with fail
  go_loopw [5] (fun i wr => ∃ k : Nat, k ≤ n ∧ i = .int .i64 k ∧ wr = w ∧ Hid (∀ j, j < k → (l.getD j default).id ≠ x)) (fun i _ => n - (intOf i).toNat)
  case atStart => exact ⟨0, Nat.zero_le _, rfl, by trivial, Lib.hid (fun j hj => by omega)⟩
  case round =>
    obtain ⟨k, hk, rfl, rfl, he⟩ := hrel
    by_cases hlt : k < n
    · obtain ⟨b, off, A3, n3, c3, rfl, _, hbl, i0, i1, i2, _, z0, z1, z2, z3, _⟩ := h.stripe_at hlt
      generalize hp : (l.getD k default).id = p at *
      have HP := Lib.hid hp; clear hp
      clear z1 z2 z3
      by_cases hd : p = x
      · have HF : Hid (atX l x = k) := Lib.hid (atX_at (by have := HL.out; omega) (HP.out.trans hd) he.out)
        subst hd
        go_wp2
        go_ret
        exact ⟨by rw [HF.out]; rfl, Below.refl _ _⟩
      · have HF : Hid (∀ j, j < k + 1 → (l.getD j default).id ≠ x) := Lib.hid (fun j hj => by
          rcases Nat.lt_or_ge j k with h | h
          · exact he.out j h
          · obtain rfl : j = k := by omega
            rw [HP.out]; exact hd)
        go_wp2
        go_roundw
        case rel => exact ⟨k + 1, by omega, by go_num, by trivial, HF⟩
        case measure => simp [intOf]; omega
    · obtain rfl : k = n := by omega
      have HF : Hid (atX l x = -1) := Lib.hid (atX_none (fun j hj => he.out j (by have := HL.out; omega)))
      go_wp2
      go_ret
      exact ⟨by rw [HF.out]; rfl, Below.refl _ _⟩
theorem shapeOk_K {s : Shape} (h : shapeOk s = true) : 1 ≤ s.K ∧ s.K ≤ 8 ∧ 0 ≤ s.M ∧ s.M ≤ 6 ∧ 1 ≤ s.size ∧ s.size ≤ 120 := by
  unfold shapeOk at h
  exact of_decide_eq_true h
set_option maxHeartbeats 1000000 in
theorem refCursor_c {w : World} {s : Shape} {c : Cursor} (hsh : shapeOk s = true) :
    Calls Try.prog 16 #[.agg #[.int .i64 s.K, .int .i64 s.M, .int .i64 s.size], .agg #[.int .i64 c.stripe, .int .i64 c.index]] w (RetV (.bool (cursorOk s c)) w) := by
  obtain ⟨k1, k2, m1, m2, _, _⟩ := shapeOk_K hsh
  have HC : Hid (cursorOk s c = (decide (-1 ≤ c.stripe ∧ c.stripe ≤ 1073741824) && decide (-1 ≤ c.index ∧ c.index ≤ s.K + s.M - 1))) := Lib.hid (by
    unfold cursorOk; rw [Bool.eq_iff_iff]; simp [and_assoc])
  generalize cursorOk s c = R at *
  go_enter Try.func16, Try.ntmps16
  go_wp2_with fail
  refine (Between_c (n := c.stripe) (l := -1) (m := 1073741824)).mono ?_
  rintro e w1 ⟨rfl, hb1⟩
  generalize decide (-1 ≤ c.stripe ∧ c.stripe ≤ 1073741824) = d1 at *
  (obtain ⟨hc_w1, hf_w1⟩ := bcell hb1; have z_w1_0 : w.heap.size < w1.heap.size := (by have := hb1.size; first | omega | (simp at this; omega)); have z_w1_1 : w.heap.size + 1 < w1.heap.size := (by have := hb1.size; first | omega | (simp at this; omega)))
  cases d1 with
  | false =>
    go_wp2
    go_ret
    exact ⟨by rw [HC.out]; rfl, (by repeat' (first | (with_reducible exact Below.refl _ _) | (with_reducible refine Below.alloc ?_ ?_ _) | (with_reducible refine Below.drew ?_) | (with_reducible refine below_drewN ?_ _) | (with_reducible refine Below.setCell ?_ ?_ _) | (refine via ?_ (by with_reducible assumption) ?_) | (refine via ?_ (below_ext _ _) ?_) | go_size))⟩
  | true =>
    go_wp2_with fail
    refine (Between_c (n := c.index) (l := -1) (m := s.K + s.M - 1)).mono ?_
    rintro e w2 ⟨rfl, hb2⟩
    generalize decide (-1 ≤ c.index ∧ c.index ≤ s.K + s.M - 1) = d2 at *
    go_wp2
    go_ret
    exact ⟨by rw [HC.out]; rfl, (by repeat' (first | (with_reducible exact Below.refl _ _) | (with_reducible refine Below.alloc ?_ ?_ _) | (with_reducible refine Below.drew ?_) | (with_reducible refine below_drewN ?_ _) | (with_reducible refine Below.setCell ?_ ?_ _) | (refine via ?_ (by with_reducible assumption) ?_) | (refine via ?_ (below_ext _ _) ?_) | go_size))⟩

set_option maxRecDepth 100000 in
set_option maxHeartbeats 4000000 in
theorem refNext_c {tg tg1 : Bool} {S : Nat → Prop} {w : World} {A0 A1 A2 : Option Addr} {n0 c0 n1 c1 n2 c2 : Nat} {s : Shape} {l : List Stripe} {nx : Int} {c : Cursor} (hsh : shapeOk s = true) (h : Sl tg 97 (stripeE tg1) w S A0 n0 c0 l) (h0 : 0 < n0) (hc : -1 ≤ c.index ∧ c.index ≤ 100) :
    Calls Try.prog 17 #[.agg #[.int .i64 s.K, .int .i64 s.M, .int .i64 s.size], .agg #[.slice A0 n0 c0, .slice A1 n1 c1, .slice A2 n2 c2, .int .i64 nx], .agg #[.int .i64 c.stripe, .int .i64 c.index]] w (RetV (.agg #[.int .i64 (nextX s l c).stripe, .int .i64 (nextX s l c).index]) w) := by
  obtain ⟨k1, k2, m1, m2, _, _⟩ := shapeOk_K hsh
  obtain ⟨hc1, hc2⟩ := hc
  have HL := Lib.hid h.len
  have hcap : n0 ≤ 9223372036854775807 := Nat.le_trans h.le h.cap
  obtain ⟨R, hR⟩ : ∃ R, R = nextX s l c := ⟨_, rfl⟩
  rw [← hR]
  have HR := Lib.hid hR; clear hR
  have hal : Below w.heap.size w ((((w.alloc (.cells #[.int .i64 s.K, .int .i64 s.M, .int .i64 s.size] 23)).alloc (.cells #[.slice A0 n0 c0, .slice A1 n1 c1, .slice A2 n2 c2, .int .i64 nx] 28)).alloc (.cells #[.int .i64 c.stripe, .int .i64 c.index] 44)).alloc (.cells #[.int .i64 0, .int .i64 0] 44)) := (by repeat' (first | (with_reducible exact Below.refl _ _) | (with_reducible refine Below.alloc ?_ ?_ _) | (with_reducible refine Below.drew ?_) | (with_reducible refine below_drewN ?_ _) | (with_reducible refine Below.setCell ?_ ?_ _) | (refine via ?_ (by with_reducible assumption) ?_) | (refine via ?_ (below_ext _ _) ?_) | go_size))
  have hr0 : ((((w.alloc (.cells #[.int .i64 s.K, .int .i64 s.M, .int .i64 s.size] 23)).alloc (.cells #[.slice A0 n0 c0, .slice A1 n1 c1, .slice A2 n2 c2, .int .i64 nx] 28)).alloc (.cells #[.int .i64 c.stripe, .int .i64 c.index] 44)).alloc (.cells #[.int .i64 0, .int .i64 0] 44)).heap[w.heap.size]? = some (.cells #[.int .i64 s.K, .int .i64 s.M, .int .i64 s.size] 23 (0, 0)) := by
    rw [Below.heap_alloc _ _ _ (by simp; try omega), Below.heap_alloc _ _ _ (by simp; try omega), Below.heap_alloc _ _ _ (by simp; try omega)]
    have := heap_alloc_new w (.cells #[.int .i64 s.K, .int .i64 s.M, .int .i64 s.size] 23)
    simpa only [World.size_alloc] using this
  have hr1 : ((((w.alloc (.cells #[.int .i64 s.K, .int .i64 s.M, .int .i64 s.size] 23)).alloc (.cells #[.slice A0 n0 c0, .slice A1 n1 c1, .slice A2 n2 c2, .int .i64 nx] 28)).alloc (.cells #[.int .i64 c.stripe, .int .i64 c.index] 44)).alloc (.cells #[.int .i64 0, .int .i64 0] 44)).heap[w.heap.size + 1]? = some (.cells #[.slice A0 n0 c0, .slice A1 n1 c1, .slice A2 n2 c2, .int .i64 nx] 28 (0, 0)) := by
    rw [Below.heap_alloc _ _ _ (by simp; try omega), Below.heap_alloc _ _ _ (by simp; try omega)]
    have := heap_alloc_new (w.alloc (.cells #[.int .i64 s.K, .int .i64 s.M, .int .i64 s.size] 23)) (.cells #[.slice A0 n0 c0, .slice A1 n1 c1, .slice A2 n2 c2, .int .i64 nx] 28)
    simpa only [World.size_alloc] using this
  have hr2 : ((((w.alloc (.cells #[.int .i64 s.K, .int .i64 s.M, .int .i64 s.size] 23)).alloc (.cells #[.slice A0 n0 c0, .slice A1 n1 c1, .slice A2 n2 c2, .int .i64 nx] 28)).alloc (.cells #[.int .i64 c.stripe, .int .i64 c.index] 44)).alloc (.cells #[.int .i64 0, .int .i64 0] 44)).heap[w.heap.size + 1 + 1]? = some (.cells #[.int .i64 c.stripe, .int .i64 c.index] 44 (0, 0)) := by
    rw [Below.heap_alloc _ _ _ (by simp; try omega)]
    have := heap_alloc_new ((w.alloc (.cells #[.int .i64 s.K, .int .i64 s.M, .int .i64 s.size] 23)).alloc (.cells #[.slice A0 n0 c0, .slice A1 n1 c1, .slice A2 n2 c2, .int .i64 nx] 28)) (.cells #[.int .i64 c.stripe, .int .i64 c.index] 44)
    simpa only [World.size_alloc] using this
  have hr3 : ((((w.alloc (.cells #[.int .i64 s.K, .int .i64 s.M, .int .i64 s.size] 23)).alloc (.cells #[.slice A0 n0 c0, .slice A1 n1 c1, .slice A2 n2 c2, .int .i64 nx] 28)).alloc (.cells #[.int .i64 c.stripe, .int .i64 c.index] 44)).alloc (.cells #[.int .i64 0, .int .i64 0] 44)).heap[w.heap.size + 1 + 1 + 1]? = some (.cells #[.int .i64 0, .int .i64 0] 44 (0, 0)) := by
    have := heap_alloc_new (((w.alloc (.cells #[.int .i64 s.K, .int .i64 s.M, .int .i64 s.size] 23)).alloc (.cells #[.slice A0 n0 c0, .slice A1 n1 c1, .slice A2 n2 c2, .int .i64 nx] 28)).alloc (.cells #[.int .i64 c.stripe, .int .i64 c.index] 44)) (.cells #[.int .i64 0, .int .i64 0] 44)
    simpa only [World.size_alloc] using this
  have hz : w.heap.size + 1 + 1 + 1 < ((((w.alloc (.cells #[.int .i64 s.K, .int .i64 s.M, .int .i64 s.size] 23)).alloc (.cells #[.slice A0 n0 c0, .slice A1 n1 c1, .slice A2 n2 c2, .int .i64 nx] 28)).alloc (.cells #[.int .i64 c.stripe, .int .i64 c.index] 44)).alloc (.cells #[.int .i64 0, .int .i64 0] 44)).heap.size := by simp
  have HS := Lib.hid (fun W (hW : Below w.heap.size w W) => h.all hW); clear h
  go_enter Try.func17, Try.ntmps17
  go_upto_region 1 with (fail)
  generalize ((((w.alloc (.cells #[.int .i64 s.K, .int .i64 s.M, .int .i64 s.size] 23)).alloc (.cells #[.slice A0 n0 c0, .slice A1 n1 c1, .slice A2 n2 c2, .int .i64 nx] 28)).alloc (.cells #[.int .i64 c.stripe, .int .i64 c.index] 44)).alloc (.cells #[.int .i64 0, .int .i64 0] 44)) = W0 at *
  have HAL := Lib.hid (fun V (hV : Below W0.heap.size W0 V) => hal.trans (hV.mono hal.size)); clear hal
  have ROW := Lib.hid (fun V (hV : Below W0.heap.size W0 V) => (show V.heap[w.heap.size]? = some (.cells #[.int .i64 s.K, .int .i64 s.M, .int .i64 s.size] 23 (0, 0)) ∧ V.heap[w.heap.size + 1]? = some (.cells #[.slice A0 n0 c0, .slice A1 n1 c1, .slice A2 n2 c2, .int .i64 nx] 28 (0, 0)) ∧ V.heap[w.heap.size + 1 + 1]? = some (.cells #[.int .i64 c.stripe, .int .i64 c.index] 44 (0, 0)) ∧ V.heap[w.heap.size + 1 + 1 + 1]? = some (.cells #[.int .i64 0, .int .i64 0] 44 (0, 0)) from ⟨(hV.block _ (by omega)).trans hr0, (hV.block _ (by omega)).trans hr1, (hV.block _ (by omega)).trans hr2, (hV.block _ (by omega)).trans hr3⟩))
  clear hr0 hr1 hr2 hr3
  obtain ⟨r0, r1, r2, r3⟩ := ROW.out W0 (Below.refl _ _)
  have b10 := (cell_of_row _ _ 0 _ _ _ r1).trans (show _ = some (.slice _ n0 c0 : Value) from rfl)
  have b20 := (cell_of_row _ _ 0 _ _ _ r2).trans (show _ = some (.int .i64 c.stripe : Value) from rfl)
  have b21 := (cell_of_row _ _ 1 _ _ _ r2).trans (show _ = some (.int .i64 c.index : Value) from rfl)
  have b00 := (cell_of_row _ _ 0 _ _ _ r0).trans (show _ = some (.int .i64 s.K : Value) from rfl)
  have b01 := (cell_of_row _ _ 1 _ _ _ r0).trans (show _ = some (.int .i64 s.M : Value) from rfl)
  clear r0 r1 r2 r3
  go_cut [24] from 8 (fun t V => t = .bool (decide (0 ≤ atX l c.stripe ∧ c.index + 1 < s.K + s.M)) ∧ Hid (Below W0.heap.size W0 V))
  case first =>
    go_wp2_with fail
    refine (At_c (x := c.stripe) (HS.out _ (HAL.out _ (Below.refl _ _)))).mono ?_
    clear b10 b20 b21 b00 b01
    rintro e w1 ⟨rfl, hb1⟩
    have HB1 := Lib.hid hb1; clear hb1
    obtain ⟨r0, r1, r2, r3⟩ := ROW.out w1 HB1.out
    have b21 := (cell_of_row _ _ 1 _ _ _ r2).trans (show _ = some (.int .i64 c.index : Value) from rfl)
    have b00 := (cell_of_row _ _ 0 _ _ _ r0).trans (show _ = some (.int .i64 s.K : Value) from rfl)
    have b01 := (cell_of_row _ _ 1 _ _ _ r0).trans (show _ = some (.int .i64 s.M : Value) from rfl)
    clear r0 r1 r2 r3
    generalize atX l c.stripe = a at *
    by_cases h1 : 0 ≤ a
    · go_wp2
      go_meet
      case rel => exact ⟨by congr 2; simp only [h1, true_and]; try simp, HB1⟩
    · go_wp2
      go_meet
      case rel => exact ⟨by rw [decide_eq_false (fun h => by have := h.1; omega)], HB1⟩
  case rest =>
    rename World => wc
    obtain ⟨rfl, HB⟩ := hcut
    clear b10 b20 b21 b00 b01
    by_cases hcd : 0 ≤ atX l c.stripe ∧ c.index + 1 < s.K + s.M
    · have HE : Hid (R = ⟨c.stripe, c.index + 1⟩) := Lib.hid (HR.out.trans (nextX_in hcd))
      rw [decide_eq_true hcd]
      clear hcd
      obtain ⟨r0, r1, r2, r3⟩ := ROW.out wc HB.out
      have b20 := (cell_of_row _ _ 0 _ _ _ r2).trans (show _ = some (.int .i64 c.stripe : Value) from rfl)
      have b21 := (cell_of_row _ _ 1 _ _ _ r2).trans (show _ = some (.int .i64 c.index : Value) from rfl)
      have f30 := frozen_of_row _ _ 0 _ _ r3
      have b30 := (cell_of_row _ _ 0 _ _ _ r3).trans (show _ = some (.int .i64 0 : Value) from rfl)
      have f31 := frozen_of_row _ _ 1 _ _ r3
      have b31 := (cell_of_row _ _ 1 _ _ _ r3).trans (show _ = some (.int .i64 0 : Value) from rfl)
      clear r0 r1 r2 r3
      have hR3 : w.heap.size + 1 + 1 + 1 < wc.heap.size := Nat.lt_of_lt_of_le hz HB.out.size
      go_wp2
      refine bodyPost_ret (v := .agg #[.int .i64 c.stripe, .int .i64 (c.index + 1)]) (by simp [results, Try.results17, go_sem, *]; done) rfl ?_
      exact ⟨by rw [HE.out], (HAL.out _ HB.out).trans (by repeat' (first | (with_reducible exact Below.refl _ _) | (with_reducible refine Below.alloc ?_ ?_ _) | (with_reducible refine Below.drew ?_) | (with_reducible refine below_drewN ?_ _) | (with_reducible refine Below.setCell ?_ ?_ _) | (refine via ?_ (by with_reducible assumption) ?_) | (refine via ?_ (below_ext _ _) ?_) | go_size))⟩
    · rw [decide_eq_false hcd]
      have HN := Lib.hid hcd; clear hcd
      go_wp2_with fail
      go_loopw [7] (fun i wr => ∃ k : Nat, k ≤ n0 ∧ i = .int .i64 k ∧ Hid (Below W0.heap.size W0 wr) ∧ Hid (∀ j, j < k → (l.getD j default).id ≤ c.stripe)) (fun i _ => n0 - (intOf i).toNat)
      case atStart => exact ⟨0, Nat.zero_le _, rfl, HB, Lib.hid (fun j hj => by omega)⟩
      case round =>
        clear HB
        obtain ⟨k, hk, rfl, HB, he⟩ := hrel
        obtain ⟨r0, r1, r2, r3⟩ := ROW.out wr HB.out
        have b10 := (cell_of_row _ _ 0 _ _ _ r1).trans (show _ = some (.slice _ n0 c0 : Value) from rfl)
        have b20 := (cell_of_row _ _ 0 _ _ _ r2).trans (show _ = some (.int .i64 c.stripe : Value) from rfl)
        clear r0 r1 r2 r3
        have hzr := Nat.lt_of_lt_of_le hz HB.out.size
        have hzr1 : w.heap.size + 1 < wr.heap.size := by omega
        have hzr2 : w.heap.size + 1 + 1 < wr.heap.size := by omega
        by_cases hlt : k < n0
        · obtain ⟨b, off, A3, n3, c3, rfl, _, hbl, i0, i1, i2, _, z0, z1, z2, z3, _⟩ := (HS.out _ (HAL.out _ HB.out)).stripe_at hlt
          clear z1 z2 z3 i0 i1 i2
          generalize hp : (l.getD k default).id = p at *
          have HP := Lib.hid hp; clear hp
          by_cases hd : c.stripe < p
          · have HE : Hid (R = ⟨p, 0⟩) := Lib.hid (by rw [HR.out, nextX_to HN.out (i := k) (by have := HL.out; omega) (by rw [HP.out]; exact hd) he.out, HP.out])
            go_wp2_with fail
            have hext := cell_ext wr
            refine region_ext (by kernel_rfl) (by kernel_rfl) ?_
            repeat (go_big_quiet_step (fail))
            refine wpQuiet_nil ?_
            rintro _ ⟨X, rfl⟩
            have HB3 := Lib.hid (HB.out.trans ((below_ext wr X).mono HB.out.size))
            have z0' := (hext X b (off + k * 4) hbl).trans z0
            clear hext b10 b20 z0 hbl
            generalize wr.ext X = w3 at *
            obtain ⟨r0, r1, r2, r3⟩ := ROW.out w3 HB3.out
            have b10 := (cell_of_row _ _ 0 _ _ _ r1).trans (show _ = some (.slice _ n0 c0 : Value) from rfl)
            have f30 := frozen_of_row _ _ 0 _ _ r3
            have b30 := (cell_of_row _ _ 0 _ _ _ r3).trans (show _ = some (.int .i64 0 : Value) from rfl)
            have f31 := frozen_of_row _ _ 1 _ _ r3
            have b31 := (cell_of_row _ _ 1 _ _ _ r3).trans (show _ = some (.int .i64 0 : Value) from rfl)
            clear r0 r1 r2 r3
            have hR3 : w.heap.size + 1 + 1 + 1 < w3.heap.size := Nat.lt_of_lt_of_le hz HB3.out.size
            go_wp2
            refine bodyPost_ret (v := .agg #[.int .i64 p, .int .i64 0]) (by simp [results, Try.results17, go_sem, *]; done) rfl ?_
            exact ⟨by rw [HE.out], (HAL.out _ HB3.out).trans (by repeat' (first | (with_reducible exact Below.refl _ _) | (with_reducible refine Below.alloc ?_ ?_ _) | (with_reducible refine Below.drew ?_) | (with_reducible refine below_drewN ?_ _) | (with_reducible refine Below.setCell ?_ ?_ _) | (refine via ?_ (by with_reducible assumption) ?_) | (refine via ?_ (below_ext _ _) ?_) | go_size))⟩
          · have HF : Hid (∀ j, j < k + 1 → (l.getD j default).id ≤ c.stripe) := Lib.hid (fun j hj => by
              rcases Nat.lt_or_ge j k with h | h
              · exact he.out j h
              · obtain rfl : j = k := by omega
                rw [HP.out]; omega)
            go_wp2_with fail
            have hext := cell_ext wr
            refine region_ext (by kernel_rfl) (by kernel_rfl) ?_
            repeat (go_big_quiet_step (fail))
            refine wpQuiet_nil ?_
            rintro _ ⟨X, rfl⟩
            have HB3 := Lib.hid (HB.out.trans ((below_ext wr X).mono HB.out.size))
            clear hext b10 b20 z0 hbl
            generalize wr.ext X = w3 at *
            go_wp2
            go_roundw
            case rel => exact ⟨k + 1, by omega, by go_num, HB3, HF⟩
            case measure => simp [intOf]; omega
        · obtain rfl : k = n0 := by omega
          have HE : Hid (R = ⟨(l.getD 0 default).id, 0⟩) := Lib.hid (HR.out.trans (nextX_over HN.out (fun j hj => he.out j (by have := HL.out; omega))))
          obtain ⟨b, off, A3, n3, c3, rfl, _, hbl, i0, i1, i2, _, z0, z1, z2, z3, _⟩ := (HS.out _ (HAL.out _ HB.out)).stripe_at h0
          clear z1 z2 z3 i0 i1 i2
          simp only [Nat.zero_mul, Nat.add_zero] at z0
          generalize (l.getD 0 default).id = p at *
          obtain ⟨r0, r1, r2, r3⟩ := ROW.out wr HB.out
          have f30 := frozen_of_row _ _ 0 _ _ r3
          have b30 := (cell_of_row _ _ 0 _ _ _ r3).trans (show _ = some (.int .i64 0 : Value) from rfl)
          have f31 := frozen_of_row _ _ 1 _ _ r3
          have b31 := (cell_of_row _ _ 1 _ _ _ r3).trans (show _ = some (.int .i64 0 : Value) from rfl)
          clear r0 r1 r2 r3
          go_wp2
          refine bodyPost_ret (v := .agg #[.int .i64 p, .int .i64 0]) (by simp [results, Try.results17, go_sem, *]; done) rfl ?_
          exact ⟨by rw [HE.out], (HAL.out _ HB.out).trans (by repeat' (first | (with_reducible exact Below.refl _ _) | (with_reducible refine Below.alloc ?_ ?_ _) | (with_reducible refine Below.drew ?_) | (with_reducible refine below_drewN ?_ _) | (with_reducible refine Below.setCell ?_ ?_ _) | (refine via ?_ (by with_reducible assumption) ?_) | (refine via ?_ (below_ext _ _) ?_) | go_size))⟩
/-- What Behind answers. -/
def behindX (s : Shape) (l : List Stripe) (c : Cursor) : Cursor := if 0 < l.length then nextX s l c else c
end Go.Proofs.Ytjeecdoffoahkaa
