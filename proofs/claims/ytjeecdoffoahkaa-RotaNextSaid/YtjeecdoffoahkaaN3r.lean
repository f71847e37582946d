/- rota.Behind: the next piece behind a cursor. Printed by gen_n3.py. -/
import Derived.Test.YtjeecdoffoahkaaN2r
import Derived.Test.YtjeecdoffoahkaaQ4r
namespace Go.Proofs.Ytjeecdoffoahkaa
open Go.RowKit Go.Silo

set_option maxRecDepth 100000 in
set_option maxHeartbeats 4000000 in
theorem Behind_c {tg tg1 : Bool} {S : Nat → Prop} {w : World} {A0 A1 A2 : Option Addr} {n0 c0 n1 c1 n2 c2 : Nat} {s : Shape} {l : List Stripe} {nx : Int} {c : Cursor} (hsh : shapeOk s = true) (h : Sl tg 97 (stripeE tg1) w S A0 n0 c0 l) (hn : n0 ≤ 4000) (hs : ∀ i j, i < j → j < n0 → (l.getD i default).id < (l.getD j default).id) (hc : -1 ≤ c.index ∧ c.index ≤ 100) :
    Calls Try.prog 126 #[.agg #[.int .i64 s.K, .int .i64 s.M, .int .i64 s.size], .agg #[.slice A0 n0 c0, .slice A1 n1 c1, .slice A2 n2 c2, .int .i64 nx], .agg #[.int .i64 c.stripe, .int .i64 c.index]] w (RetV (.tuple #[.agg #[.int .i64 (behindX s l c).stripe, .int .i64 (behindX s l c).index], .bool (decide (0 < n0))]) w) := by
  obtain ⟨k1, k2, m1, m2, _, _⟩ := shapeOk_K hsh
  obtain ⟨hc1, hc2⟩ := hc
  have HL := Lib.hid h.len
  have HSO := Lib.hid (fun i j h1 h2 => hs i j h1 (by have := HL.out; omega) : ∀ i j, i < j → j < l.length → (l.getD i default).id < (l.getD j default).id)
  have HST := Lib.hid (fun W (hW : Below w.heap.size w W) => Stripe_c (w := W) (A1 := A1) (A2 := A2) (n1 := n1) (c1 := c1) (n2 := n2) (c2 := c2) (nx := nx) (x := c.stripe) (h.all hW) (by omega) hs); clear hs
  obtain ⟨R, hR⟩ : ∃ R, R = behindX s l c := ⟨_, rfl⟩
  rw [← hR]
  have HR0 := Lib.hid hR; clear hR
  obtain ⟨D, hD⟩ : ∃ D, D = decide (0 < n0) := ⟨_, rfl⟩
  rw [← hD]
  have HD := Lib.hid hD; clear hD
  have hal : Below w.heap.size w ((((w.alloc (.cells #[.int .i64 s.K, .int .i64 s.M, .int .i64 s.size] 23)).alloc (.cells #[.slice A0 n0 c0, .slice A1 n1 c1, .slice A2 n2 c2, .int .i64 nx] 28)).alloc (.cells #[.int .i64 c.stripe, .int .i64 c.index] 44)).alloc (.cells #[.int .i64 0, .int .i64 0] 44)) := (by repeat' (first | (with_reducible exact Below.refl _ _) | (with_reducible refine Below.alloc ?_ ?_ _) | (with_reducible refine Below.drew ?_) | (with_reducible refine below_drewN ?_ _) | (with_reducible refine Below.setCell ?_ ?_ _) | (refine via ?_ (by with_reducible assumption) ?_) | (refine via ?_ (below_ext _ _) ?_) | go_size))
  have hr0 : ((((w.alloc (.cells #[.int .i64 s.K, .int .i64 s.M, .int .i64 s.size] 23)).alloc (.cells #[.slice A0 n0 c0, .slice A1 n1 c1, .slice A2 n2 c2, .int .i64 nx] 28)).alloc (.cells #[.int .i64 c.stripe, .int .i64 c.index] 44)).alloc (.cells #[.int .i64 0, .int .i64 0] 44)).heap[w.heap.size]? = some (.cells #[.int .i64 s.K, .int .i64 s.M, .int .i64 s.size] 23 (0, 0)) := by
    rw [Below.heap_alloc _ _ _ (by simp; try omega), Below.heap_alloc _ _ _ (by simp; try omega), Below.heap_alloc _ _ _ (by simp; try omega)]
    have := heap_alloc_new w (.cells #[.int .i64 s.K, .int .i64 s.M, .int .i64 s.size] 23)
    simpa only [World.size_alloc] using this
  have hr1 : ((((w.alloc (.cells #[.int .i64 s.K, .int .i64 s.M, .int .i64 s.size] 23)).alloc (.cells #[.slice A0 n0 c0, .slice A1 n1 c1, .slice A2 n2 c2, .int .i64 nx] 28)).alloc (.cells #[.int .i64 c.stripe, .int .i64 c.index] 44)).alloc (.cells #[.int .i64 0, .int .i64 0] 44)).heap[w.heap.size + 1]? = some (.cells #[.slice A0 n0 c0, .slice A1 n1 c1, .slice A2 n2 c2, .int .i64 nx] 28 (0, 0)) := by
    rw [Below.heap_alloc _ _ _ (by simp; try omega), Below.heap_alloc _ _ _ (by simp; try omega)]
    have := heap_alloc_new (w.alloc (.cells #[.int .i64 s.K, .int .i64 s.M, .int .i64 s.size] 23)) (.cells #[.slice A0 n0 c0, .slice A1 n1 c1, .slice A2 n2 c2, .int .i64 nx] 28)
    simpa only [World.size_alloc] using this
  have hr2 : ((((w.alloc (.cells #[.int .i64 s.K, .int .i64 s.M, .int .i64 s.size] 23)).alloc (.cells #[.slice A0 n0 c0, .slice A1 n1 c1, .slice A2 n2 c2, .int .i64 nx] 28)).alloc (.cells #[.int .i64 c.stripe, .int .i64 c.index] 44)).alloc (.cells #[.int .i64 0, .int .i64 0] 44)).heap[w.heap.size + 1 + 1]? = some (.cells #[.int .i64 c.stripe, .int .i64 c.index] 44 (0, 0)) := by
    rw [Below.heap_alloc _ _ _ (by simp; try omega)]
    have := heap_alloc_new ((w.alloc (.cells #[.int .i64 s.K, .int .i64 s.M, .int .i64 s.size] 23)).alloc (.cells #[.slice A0 n0 c0, .slice A1 n1 c1, .slice A2 n2 c2, .int .i64 nx] 28)) (.cells #[.int .i64 c.stripe, .int .i64 c.index] 44)
    simpa only [World.size_alloc] using this
  have hr3 : ((((w.alloc (.cells #[.int .i64 s.K, .int .i64 s.M, .int .i64 s.size] 23)).alloc (.cells #[.slice A0 n0 c0, .slice A1 n1 c1, .slice A2 n2 c2, .int .i64 nx] 28)).alloc (.cells #[.int .i64 c.stripe, .int .i64 c.index] 44)).alloc (.cells #[.int .i64 0, .int .i64 0] 44)).heap[w.heap.size + 1 + 1 + 1]? = some (.cells #[.int .i64 0, .int .i64 0] 44 (0, 0)) := by
    have := heap_alloc_new (((w.alloc (.cells #[.int .i64 s.K, .int .i64 s.M, .int .i64 s.size] 23)).alloc (.cells #[.slice A0 n0 c0, .slice A1 n1 c1, .slice A2 n2 c2, .int .i64 nx] 28)).alloc (.cells #[.int .i64 c.stripe, .int .i64 c.index] 44)) (.cells #[.int .i64 0, .int .i64 0] 44)
    simpa only [World.size_alloc] using this
  have hz : w.heap.size + 1 + 1 + 1 < ((((w.alloc (.cells #[.int .i64 s.K, .int .i64 s.M, .int .i64 s.size] 23)).alloc (.cells #[.slice A0 n0 c0, .slice A1 n1 c1, .slice A2 n2 c2, .int .i64 nx] 28)).alloc (.cells #[.int .i64 c.stripe, .int .i64 c.index] 44)).alloc (.cells #[.int .i64 0, .int .i64 0] 44)).heap.size := by simp
  have HS := Lib.hid (fun W (hW : Below w.heap.size w W) => h.all hW); clear h
  go_enter Try.func126, Try.ntmps126
  go_upto_region 1 with (fail)
  generalize ((((w.alloc (.cells #[.int .i64 s.K, .int .i64 s.M, .int .i64 s.size] 23)).alloc (.cells #[.slice A0 n0 c0, .slice A1 n1 c1, .slice A2 n2 c2, .int .i64 nx] 28)).alloc (.cells #[.int .i64 c.stripe, .int .i64 c.index] 44)).alloc (.cells #[.int .i64 0, .int .i64 0] 44)) = W0 at *
  have HAL := Lib.hid (fun V (hV : Below W0.heap.size W0 V) => hal.trans (hV.mono hal.size)); clear hal
  have ROW := Lib.hid (fun V (hV : Below W0.heap.size W0 V) => (show V.heap[w.heap.size]? = some (.cells #[.int .i64 s.K, .int .i64 s.M, .int .i64 s.size] 23 (0, 0)) ∧ V.heap[w.heap.size + 1]? = some (.cells #[.slice A0 n0 c0, .slice A1 n1 c1, .slice A2 n2 c2, .int .i64 nx] 28 (0, 0)) ∧ V.heap[w.heap.size + 1 + 1]? = some (.cells #[.int .i64 c.stripe, .int .i64 c.index] 44 (0, 0)) ∧ V.heap[w.heap.size + 1 + 1 + 1]? = some (.cells #[.int .i64 0, .int .i64 0] 44 (0, 0)) from ⟨(hV.block _ (by omega)).trans hr0, (hV.block _ (by omega)).trans hr1, (hV.block _ (by omega)).trans hr2, (hV.block _ (by omega)).trans hr3⟩))
  clear hr0 hr1 hr2 hr3
  by_cases h0 : n0 = 0
  · have HE : Hid (R = c) := Lib.hid (HR0.out.trans (by unfold behindX; rw [if_neg (by have := HL.out; omega)]))
    have HDD : Hid (D = false) := Lib.hid (HD.out.trans (decide_eq_false (by omega)))
    obtain ⟨r0, r1, r2, r3⟩ := ROW.out W0 (Below.refl _ _)
    have b10 := (cell_of_row _ _ 0 _ _ _ r1).trans (show _ = some (.slice _ n0 c0 : Value) from rfl)
    have b20 := (cell_of_row _ _ 0 _ _ _ r2).trans (show _ = some (.int .i64 c.stripe : Value) from rfl)
    have b21 := (cell_of_row _ _ 1 _ _ _ r2).trans (show _ = some (.int .i64 c.index : Value) from rfl)
    have f30 := frozen_of_row _ _ 0 _ _ r3
    have b30 := (cell_of_row _ _ 0 _ _ _ r3).trans (show _ = some (.int .i64 0 : Value) from rfl)
    have f31 := frozen_of_row _ _ 1 _ _ r3
    have b31 := (cell_of_row _ _ 1 _ _ _ r3).trans (show _ = some (.int .i64 0 : Value) from rfl)
    clear r0 r1 r2 r3
    subst h0
    have HB0 := Lib.hid (HAL.out _ (Below.refl _ _))
    go_wp2
    refine bodyPost_ret (v := .tuple #[.agg #[.int .i64 c.stripe, .int .i64 c.index], .bool false]) (by simp [results, Try.results126, go_sem, *]; done) rfl ?_
    exact ⟨by rw [HE.out, HDD.out], HB0.out.trans (by repeat' (first | (with_reducible exact Below.refl _ _) | (with_reducible refine Below.alloc ?_ ?_ _) | (with_reducible refine Below.drew ?_) | (with_reducible refine below_drewN ?_ _) | (with_reducible refine Below.setCell ?_ ?_ _) | (refine via ?_ (by with_reducible assumption) ?_) | (refine via ?_ (below_ext _ _) ?_) | go_size))⟩
  · have hn0 : 0 < n0 := by omega
    have HDD : Hid (D = true) := Lib.hid (HD.out.trans (decide_eq_true hn0))
    clear HD
    have HR : Hid (R = nextX s l c) := Lib.hid (HR0.out.trans (by unfold behindX; rw [if_pos (by have := HL.out; omega)]))
    clear HR0
    obtain ⟨r0, r1, r2, r3⟩ := ROW.out W0 (Below.refl _ _)
    have b10 := (cell_of_row _ _ 0 _ _ _ r1).trans (show _ = some (.slice _ n0 c0 : Value) from rfl)
    have b11 := (cell_of_row _ _ 1 _ _ _ r1).trans (show _ = some (.slice _ n1 c1 : Value) from rfl)
    have b12 := (cell_of_row _ _ 2 _ _ _ r1).trans (show _ = some (.slice _ n2 c2 : Value) from rfl)
    have b13 := (cell_of_row _ _ 3 _ _ _ r1).trans (show _ = some (.int .i64 nx : Value) from rfl)
    have b20 := (cell_of_row _ _ 0 _ _ _ r2).trans (show _ = some (.int .i64 c.stripe : Value) from rfl)
    clear r0 r1 r2 r3
    go_wp2_with fail
    refine (HST.out _ (HAL.out _ (Below.refl _ _))).mono ?_
    clear b10 b11 b12 b13 b20
    rintro e w1 ⟨i, hi, rfl, g1, g2, hb1⟩
    have HB1 := Lib.hid hb1; clear hb1
    have HG := Lib.hid (And.intro g1 g2); clear g1 g2
    by_cases hfd : i < l.length ∧ (l.getD i default).id = c.stripe
    · rw [decide_eq_true hfd]
      have HFD := Lib.hid hfd; clear hfd
      obtain ⟨r0, r1, r2, r3⟩ := ROW.out w1 HB1.out
      have b20 := (cell_of_row _ _ 0 _ _ _ r2).trans (show _ = some (.int .i64 c.stripe : Value) from rfl)
      have b21 := (cell_of_row _ _ 1 _ _ _ r2).trans (show _ = some (.int .i64 c.index : Value) from rfl)
      have b00 := (cell_of_row _ _ 0 _ _ _ r0).trans (show _ = some (.int .i64 s.K : Value) from rfl)
      have b01 := (cell_of_row _ _ 1 _ _ _ r0).trans (show _ = some (.int .i64 s.M : Value) from rfl)
      clear r0 r1 r2 r3
      by_cases hix : c.index < s.K + s.M - 1
      · have HE : Hid (R = ⟨c.stripe, c.index + 1⟩) := Lib.hid (HR.out.trans (behind_in hi HG.out.1 HG.out.2 HSO.out HFD.out hix))
        obtain ⟨r0, r1, r2, r3⟩ := ROW.out w1 HB1.out
        have f30 := frozen_of_row _ _ 0 _ _ r3
        have b30 := (cell_of_row _ _ 0 _ _ _ r3).trans (show _ = some (.int .i64 0 : Value) from rfl)
        have f31 := frozen_of_row _ _ 1 _ _ r3
        have b31 := (cell_of_row _ _ 1 _ _ _ r3).trans (show _ = some (.int .i64 0 : Value) from rfl)
        clear r0 r1 r2 r3
        have hw1 : w.heap.size + 1 + 1 + 1 < w1.heap.size := Nat.lt_of_lt_of_le hz HB1.out.size
        go_wp2
        refine bodyPost_ret (v := .tuple #[.agg #[.int .i64 c.stripe, .int .i64 (c.index + 1)], .bool true]) (by simp [results, Try.results126, go_sem, *]; done) rfl ?_
        exact ⟨by rw [HE.out, HDD.out], (HAL.out _ HB1.out).trans (by repeat' (first | (with_reducible exact Below.refl _ _) | (with_reducible refine Below.alloc ?_ ?_ _) | (with_reducible refine Below.drew ?_) | (with_reducible refine below_drewN ?_ _) | (with_reducible refine Below.setCell ?_ ?_ _) | (refine via ?_ (by with_reducible assumption) ?_) | (refine via ?_ (below_ext _ _) ?_) | go_size))⟩
      · have hil : i ≤ 4000 := by have := HL.out; omega
        have hqn : (i + 1) % n0 < n0 := Nat.mod_lt _ (by omega)
        have HE0 : Hid (R = ⟨(l.getD ((i + 1) % n0) default).id, 0⟩) := Lib.hid (HR.out.trans (by rw [← HL.out]; exact behind_on hi (by have := HL.out; omega) HG.out.1 HG.out.2 HSO.out HFD.out hix))
        have HQM : Hid (Int.tmod ((i : Int) + 1) (n0 : Int) = (((i + 1) % n0 : Nat) : Int)) := Lib.hid (by rw [Int.tmod_eq_emod_of_nonneg (by omega)]; exact (Int.natCast_emod (i + 1) n0).symm)
        obtain ⟨bE, oE, A3, n3, c3, eA, _, hbE, _, _, _, _, u0, _⟩ := (HS.out _ (HAL.out _ HB1.out)).stripe_at hqn
        subst eA
        generalize hqN : (i + 1) % n0 = qN at *
        generalize (l.getD qN default).id = p at *
        have HB1D := Lib.hid HB1.out.drew
        have HE : Hid (R = ⟨p, 0⟩) := HE0
        have HPC := Lib.hid (fun (V : World) (hV : V.heap = w1.heap) => (show V.cell? ⟨bE, oE + qN * 4, none⟩ = some (.int .i64 p) from by rw [← u0]; unfold World.cell?; rw [hV]))
        clear u0 HE0
        go_wp2_with fail
        refine region_free (by kernel_rfl) (by kernel_rfl) 54 rfl [43, 44, 45, 46, 47, 48, 49, 50, 51, 52, 53, 7] [11] []
          [(43, [], fun _ => .pointer (some ⟨w.heap.size + 1, 0, none⟩)), (44, [], fun _ => .slice (some ⟨bE, oE, none⟩) n0 c0), (45, [], fun _ => .int .i64 ((i : Int) + 1)), (46, [], fun _ => .pointer (some ⟨w.heap.size + 1, 0, none⟩)), (47, [], fun _ => .slice (some ⟨bE, oE, none⟩) n0 c0), (48, [], fun _ => .int .i64 (n0 : Int)), (49, [], fun _ => .int .i64 (qN : Int)), (50, [], fun _ => .pointer (some ⟨bE, oE + qN * 4, none⟩)), (51, [], fun _ => .pointer (some ⟨bE, oE + qN * 4, none⟩)), (52, [], fun _ => .int .i64 p), (53, [], fun _ => .agg #[.int .i64 p, .int .i64 0]), (7, [], fun _ => .bool true)]
          [[11], [11], [11], [11], [11], [11], [11], [11], [11], [11], [11]] [] [[], [43], [], [], [46], [47], [45, 48], [44, 49], [50], [51], [52], [53], []]
          (Wd1 w1.drew 11 ((w1.drew.setCell ⟨w.heap.size + 1 + 1 + 1, 0, none⟩ (.int .i64 p)).setCell ⟨w.heap.size + 1 + 1 + 1, 1, none⟩ (.int .i64 0))) (by kernel_rfl) .pre ⟨?_, ?_, ?_, ?_, ?_, ?_, ?_, ?_, ?_, ?_, ?_, ?_, ?_, trivial⟩ ?_
        · (refine OpH.rd rfl rfl (fun ρ us w6 ho ht hc hl hsrc hW => ?_); have e4 := (ho 4 rfl).trans (show _ = (.pointer (some ⟨w.heap.size + 1, 0, none⟩) : Value) from rfl); clear ht ho; simp only [execOp, e4]; go_simp; try rfl)
        · (refine OpH.rd rfl rfl (fun ρ us w6 ho ht hc hl hsrc hW => ?_); have e43 := (ht 43 (by decide)).trans (show _ = (.pointer (some ⟨w.heap.size + 1, 0, none⟩) : Value) from rfl); obtain ⟨rfl, rfl⟩ := hW.early (hl 11 (by decide)); obtain ⟨_, y1, _, _⟩ := ROW.out _ HB1D.out; have y10 := cell_of_row _ _ 0 _ _ _ y1; clear y1; clear ht ho; simp only [execOp, e43]; go_simp; try rfl)
        · (refine OpH.rd rfl rfl (fun ρ us w6 ho ht hc hl hsrc hW => ?_); have e8 := (ho 8 rfl).trans (show _ = (.int .i64 ((i : Int) + 1) : Value) from rfl); clear ht ho; simp only [execOp, e8]; go_simp; try rfl)
        · (refine OpH.rd rfl rfl (fun ρ us w6 ho ht hc hl hsrc hW => ?_); have e4 := (ho 4 rfl).trans (show _ = (.pointer (some ⟨w.heap.size + 1, 0, none⟩) : Value) from rfl); clear ht ho; simp only [execOp, e4]; go_simp; try rfl)
        · (refine OpH.rd rfl rfl (fun ρ us w6 ho ht hc hl hsrc hW => ?_); have e46 := (ht 46 (by decide)).trans (show _ = (.pointer (some ⟨w.heap.size + 1, 0, none⟩) : Value) from rfl); obtain ⟨rfl, rfl⟩ := hW.early (hl 11 (by decide)); obtain ⟨_, y1, _, _⟩ := ROW.out _ HB1D.out; have y10 := cell_of_row _ _ 0 _ _ _ y1; clear y1; clear ht ho; simp only [execOp, e46]; go_simp; try rfl)
        · (refine OpH.rd rfl rfl (fun ρ us w6 ho ht hc hl hsrc hW => ?_); have e47 := (ht 47 (by decide)).trans (show _ = (.slice (some ⟨bE, oE, none⟩) n0 c0 : Value) from rfl); clear ht ho; simp only [execOp]; go_simp; try rfl)
        · (refine OpH.rd rfl rfl (fun ρ us w6 ho ht hc hl hsrc hW => ?_); have e45 := (ht 45 (by decide)).trans (show _ = (.int .i64 ((i : Int) + 1) : Value) from rfl); have e48 := (ht 48 (by decide)).trans (show _ = (.int .i64 (n0 : Int) : Value) from rfl); clear ht ho; simp only [execOp, e45, e48]; go_simp; rw [HQM.out]; rfl)
        · (refine OpH.rd rfl rfl (fun ρ us w6 ho ht hc hl hsrc hW => ?_); have e44 := (ht 44 (by decide)).trans (show _ = (.slice (some ⟨bE, oE, none⟩) n0 c0 : Value) from rfl); have e49 := (ht 49 (by decide)).trans (show _ = (.int .i64 (qN : Int) : Value) from rfl); clear ht ho; simp only [execOp, e44, e49]; go_simp; try rfl)
        · (refine OpH.rd rfl rfl (fun ρ us w6 ho ht hc hl hsrc hW => ?_); have e50 := (ht 50 (by decide)).trans (show _ = (.pointer (some ⟨bE, oE + qN * 4, none⟩) : Value) from rfl); clear ht ho; simp only [execOp, e50]; go_simp; try rfl)
        · (refine OpH.rd rfl rfl (fun ρ us w6 ho ht hc hl hsrc hW => ?_); have e51 := (ht 51 (by decide)).trans (show _ = (.pointer (some ⟨bE, oE + qN * 4, none⟩) : Value) from rfl); obtain ⟨rfl, rfl⟩ := hW.early (hl 11 (by decide)); have y := HPC.out _ (by rfl); clear ht ho; simp only [execOp, e51]; go_simp; try rfl)
        · (refine OpH.rd rfl rfl (fun ρ us w6 ho ht hc hl hsrc hW => ?_); have e52 := (ht 52 (by decide)).trans (show _ = (.int .i64 p : Value) from rfl); clear ht ho; simp only [execOp]; go_simp; try rfl)
        · refine OpH.wr rfl (fun Z us w6 ho ht hni hlim hreq hW K hK => ?_)
          obtain ⟨rfl, ew⟩ := hW.early hni
          obtain ⟨_, _, _, y3⟩ := ROW.out _ HB1D.out
          rw [← ew] at y3
          have x0 := (cell_of_row _ _ 0 _ _ _ y3).trans (show _ = some (.int .i64 0 : Value) from rfl)
          have x1 := (cell_of_row _ _ 1 _ _ _ y3).trans (show _ = some (.int .i64 0 : Value) from rfl)
          have f0 := frozen_of_row _ _ 0 _ _ y3
          have f1 := frozen_of_row _ _ 1 _ _ y3
          clear y3
          have e53 := (ht 53 (by decide)).trans (show _ = (.agg #[.int .i64 p, .int .i64 0] : Value) from rfl)
          have e6 := (ho 6 rfl).trans (show _ = (.pointer (some ⟨w.heap.size + 1 + 1 + 1, 0, none⟩) : Value) from rfl)
          have HK : Hid (K (Z.put none undef) ((w6.setCell ⟨w.heap.size + 1 + 1 + 1, 0, none⟩ (.int .i64 p)).setCell ⟨w.heap.size + 1 + 1 + 1, 1, none⟩ (.int .i64 0))) := Lib.hid (by rw [ew]; exact hK undef _ .post)
          clear hK hW hni hlim hreq ho ht ew
          rw [if_pos (by simp [Region.wanted])]
          unfold Oper.wp
          generalize Z.eval = ρ at *
          simp only [execOp, e53, e6]
          go_simp
          exact HK.out
        · (refine OpH.rd rfl rfl (fun ρ us w6 ho ht hc hl hsrc hW => ?_); clear ht ho; simp only [execOp]; go_simp; try rfl)
        · intro us w9 hmem hW
          obtain rfl := hW.done (hmem 11 (by decide))
          simp only [putAll, List.map_cons, List.map_nil, List.foldl_cons, List.foldl_nil, Act.put, List.setIfInBounds_toArray, List.set_cons_succ, List.set_cons_zero]
          generalize hsv : slotAt _ _ us = sv
          have hq : sv 7 = (.bool true : Value) := by rw [← hsv]; rfl
          rw [hq]
          have hw1 : w.heap.size + 1 + 1 + 1 < w1.drew.heap.size := Nat.lt_of_lt_of_le hz HB1D.out.size
          obtain ⟨_, _, _, y3⟩ := ROW.out _ HB1D.out
          have y3' := row_set2 (u := .int .i64 p) (v := .int .i64 0) y3
          have x0 := (cell_of_row _ _ 0 _ _ _ y3').trans (show _ = some (.int .i64 p : Value) from rfl)
          have x1 := (cell_of_row _ _ 1 _ _ _ y3').trans (show _ = some (.int .i64 0 : Value) from rfl)
          have HBW := Lib.hid ((((HAL.out _ HB1D.out).setCell (p := ⟨w.heap.size + 1 + 1 + 1, 0, none⟩) (by simp; omega) (.int .i64 p)).setCell (p := ⟨w.heap.size + 1 + 1 + 1, 1, none⟩) (by simp; omega) (.int .i64 0)))
          clear hsv hq hmem hW y3 y3' hw1
          generalize (((w1.drew.setCell ⟨w.heap.size + 1 + 1 + 1, 0, none⟩ (.int .i64 p)).setCell ⟨w.heap.size + 1 + 1 + 1, 1, none⟩ (.int .i64 0)) : World) = w9 at *
          go_wp2
          refine bodyPost_ret (v := .tuple #[.agg #[.int .i64 p, .int .i64 0], .bool true]) (by simp [results, Try.results126, go_sem, *]; done) rfl ?_
          exact ⟨by rw [HE.out, HDD.out], HBW.out⟩
    · rw [decide_eq_false hfd]
      have hil : i ≤ 4000 := by have := HL.out; omega
      have hqn : (i) % n0 < n0 := Nat.mod_lt _ (by omega)
      have HE0 : Hid (R = ⟨(l.getD ((i) % n0) default).id, 0⟩) := Lib.hid (HR.out.trans (by rw [← HL.out]; exact behind_off hi (by have := HL.out; omega) HG.out.1 HG.out.2 HSO.out hfd))
      have HQM : Hid (Int.tmod ((i : Int)) (n0 : Int) = (((i) % n0 : Nat) : Int)) := Lib.hid (by rw [Int.tmod_eq_emod_of_nonneg (by omega)]; exact (Int.natCast_emod (i) n0).symm)
      obtain ⟨bE, oE, A3, n3, c3, eA, _, hbE, _, _, _, _, u0, _⟩ := (HS.out _ (HAL.out _ HB1.out)).stripe_at hqn
      subst eA
      generalize hqN : (i) % n0 = qN at *
      generalize (l.getD qN default).id = p at *
      have HB1D := Lib.hid HB1.out.drew
      have HE : Hid (R = ⟨p, 0⟩) := HE0
      have HPC := Lib.hid (fun (V : World) (hV : V.heap = w1.heap) => (show V.cell? ⟨bE, oE + qN * 4, none⟩ = some (.int .i64 p) from by rw [← u0]; unfold World.cell?; rw [hV]))
      clear u0 HE0
      go_wp2_with fail
      refine region_free (by kernel_rfl) (by kernel_rfl) 54 rfl [43, 44, 45, 46, 47, 48, 49, 50, 51, 52, 53, 7] [11] []
        [(43, [], fun _ => .pointer (some ⟨w.heap.size + 1, 0, none⟩)), (44, [], fun _ => .slice (some ⟨bE, oE, none⟩) n0 c0), (45, [], fun _ => .int .i64 ((i : Int))), (46, [], fun _ => .pointer (some ⟨w.heap.size + 1, 0, none⟩)), (47, [], fun _ => .slice (some ⟨bE, oE, none⟩) n0 c0), (48, [], fun _ => .int .i64 (n0 : Int)), (49, [], fun _ => .int .i64 (qN : Int)), (50, [], fun _ => .pointer (some ⟨bE, oE + qN * 4, none⟩)), (51, [], fun _ => .pointer (some ⟨bE, oE + qN * 4, none⟩)), (52, [], fun _ => .int .i64 p), (53, [], fun _ => .agg #[.int .i64 p, .int .i64 0]), (7, [], fun _ => .bool true)]
        [[11], [11], [11], [11], [11], [11], [11], [11], [11], [11], [11]] [] [[], [43], [], [], [46], [47], [45, 48], [44, 49], [50], [51], [52], [53], []]
        (Wd1 w1.drew 11 ((w1.drew.setCell ⟨w.heap.size + 1 + 1 + 1, 0, none⟩ (.int .i64 p)).setCell ⟨w.heap.size + 1 + 1 + 1, 1, none⟩ (.int .i64 0))) (by kernel_rfl) .pre ⟨?_, ?_, ?_, ?_, ?_, ?_, ?_, ?_, ?_, ?_, ?_, ?_, ?_, trivial⟩ ?_
      · (refine OpH.rd rfl rfl (fun ρ us w6 ho ht hc hl hsrc hW => ?_); have e4 := (ho 4 rfl).trans (show _ = (.pointer (some ⟨w.heap.size + 1, 0, none⟩) : Value) from rfl); clear ht ho; simp only [execOp, e4]; go_simp; try rfl)
      · (refine OpH.rd rfl rfl (fun ρ us w6 ho ht hc hl hsrc hW => ?_); have e43 := (ht 43 (by decide)).trans (show _ = (.pointer (some ⟨w.heap.size + 1, 0, none⟩) : Value) from rfl); obtain ⟨rfl, rfl⟩ := hW.early (hl 11 (by decide)); obtain ⟨_, y1, _, _⟩ := ROW.out _ HB1D.out; have y10 := cell_of_row _ _ 0 _ _ _ y1; clear y1; clear ht ho; simp only [execOp, e43]; go_simp; try rfl)
      · (refine OpH.rd rfl rfl (fun ρ us w6 ho ht hc hl hsrc hW => ?_); have e8 := (ho 8 rfl).trans (show _ = (.int .i64 ((i : Int)) : Value) from rfl); clear ht ho; simp only [execOp, e8]; go_simp; try rfl)
      · (refine OpH.rd rfl rfl (fun ρ us w6 ho ht hc hl hsrc hW => ?_); have e4 := (ho 4 rfl).trans (show _ = (.pointer (some ⟨w.heap.size + 1, 0, none⟩) : Value) from rfl); clear ht ho; simp only [execOp, e4]; go_simp; try rfl)
      · (refine OpH.rd rfl rfl (fun ρ us w6 ho ht hc hl hsrc hW => ?_); have e46 := (ht 46 (by decide)).trans (show _ = (.pointer (some ⟨w.heap.size + 1, 0, none⟩) : Value) from rfl); obtain ⟨rfl, rfl⟩ := hW.early (hl 11 (by decide)); obtain ⟨_, y1, _, _⟩ := ROW.out _ HB1D.out; have y10 := cell_of_row _ _ 0 _ _ _ y1; clear y1; clear ht ho; simp only [execOp, e46]; go_simp; try rfl)
      · (refine OpH.rd rfl rfl (fun ρ us w6 ho ht hc hl hsrc hW => ?_); have e47 := (ht 47 (by decide)).trans (show _ = (.slice (some ⟨bE, oE, none⟩) n0 c0 : Value) from rfl); clear ht ho; simp only [execOp]; go_simp; try rfl)
      · (refine OpH.rd rfl rfl (fun ρ us w6 ho ht hc hl hsrc hW => ?_); have e45 := (ht 45 (by decide)).trans (show _ = (.int .i64 ((i : Int)) : Value) from rfl); have e48 := (ht 48 (by decide)).trans (show _ = (.int .i64 (n0 : Int) : Value) from rfl); clear ht ho; simp only [execOp, e45, e48]; go_simp; rw [HQM.out]; rfl)
      · (refine OpH.rd rfl rfl (fun ρ us w6 ho ht hc hl hsrc hW => ?_); have e44 := (ht 44 (by decide)).trans (show _ = (.slice (some ⟨bE, oE, none⟩) n0 c0 : Value) from rfl); have e49 := (ht 49 (by decide)).trans (show _ = (.int .i64 (qN : Int) : Value) from rfl); clear ht ho; simp only [execOp, e44, e49]; go_simp; try rfl)
      · (refine OpH.rd rfl rfl (fun ρ us w6 ho ht hc hl hsrc hW => ?_); have e50 := (ht 50 (by decide)).trans (show _ = (.pointer (some ⟨bE, oE + qN * 4, none⟩) : Value) from rfl); clear ht ho; simp only [execOp, e50]; go_simp; try rfl)
      · (refine OpH.rd rfl rfl (fun ρ us w6 ho ht hc hl hsrc hW => ?_); have e51 := (ht 51 (by decide)).trans (show _ = (.pointer (some ⟨bE, oE + qN * 4, none⟩) : Value) from rfl); obtain ⟨rfl, rfl⟩ := hW.early (hl 11 (by decide)); have y := HPC.out _ (by rfl); clear ht ho; simp only [execOp, e51]; go_simp; try rfl)
      · (refine OpH.rd rfl rfl (fun ρ us w6 ho ht hc hl hsrc hW => ?_); have e52 := (ht 52 (by decide)).trans (show _ = (.int .i64 p : Value) from rfl); clear ht ho; simp only [execOp]; go_simp; try rfl)
      · refine OpH.wr rfl (fun Z us w6 ho ht hni hlim hreq hW K hK => ?_)
        obtain ⟨rfl, ew⟩ := hW.early hni
        obtain ⟨_, _, _, y3⟩ := ROW.out _ HB1D.out
        rw [← ew] at y3
        have x0 := (cell_of_row _ _ 0 _ _ _ y3).trans (show _ = some (.int .i64 0 : Value) from rfl)
        have x1 := (cell_of_row _ _ 1 _ _ _ y3).trans (show _ = some (.int .i64 0 : Value) from rfl)
        have f0 := frozen_of_row _ _ 0 _ _ y3
        have f1 := frozen_of_row _ _ 1 _ _ y3
        clear y3
        have e53 := (ht 53 (by decide)).trans (show _ = (.agg #[.int .i64 p, .int .i64 0] : Value) from rfl)
        have e6 := (ho 6 rfl).trans (show _ = (.pointer (some ⟨w.heap.size + 1 + 1 + 1, 0, none⟩) : Value) from rfl)
        have HK : Hid (K (Z.put none undef) ((w6.setCell ⟨w.heap.size + 1 + 1 + 1, 0, none⟩ (.int .i64 p)).setCell ⟨w.heap.size + 1 + 1 + 1, 1, none⟩ (.int .i64 0))) := Lib.hid (by rw [ew]; exact hK undef _ .post)
        clear hK hW hni hlim hreq ho ht ew
        rw [if_pos (by simp [Region.wanted])]
        unfold Oper.wp
        generalize Z.eval = ρ at *
        simp only [execOp, e53, e6]
        go_simp
        exact HK.out
      · (refine OpH.rd rfl rfl (fun ρ us w6 ho ht hc hl hsrc hW => ?_); clear ht ho; simp only [execOp]; go_simp; try rfl)
      · intro us w9 hmem hW
        obtain rfl := hW.done (hmem 11 (by decide))
        simp only [putAll, List.map_cons, List.map_nil, List.foldl_cons, List.foldl_nil, Act.put, List.setIfInBounds_toArray, List.set_cons_succ, List.set_cons_zero]
        generalize hsv : slotAt _ _ us = sv
        have hq : sv 7 = (.bool true : Value) := by rw [← hsv]; rfl
        rw [hq]
        have hw1 : w.heap.size + 1 + 1 + 1 < w1.drew.heap.size := Nat.lt_of_lt_of_le hz HB1D.out.size
        obtain ⟨_, _, _, y3⟩ := ROW.out _ HB1D.out
        have y3' := row_set2 (u := .int .i64 p) (v := .int .i64 0) y3
        have x0 := (cell_of_row _ _ 0 _ _ _ y3').trans (show _ = some (.int .i64 p : Value) from rfl)
        have x1 := (cell_of_row _ _ 1 _ _ _ y3').trans (show _ = some (.int .i64 0 : Value) from rfl)
        have HBW := Lib.hid ((((HAL.out _ HB1D.out).setCell (p := ⟨w.heap.size + 1 + 1 + 1, 0, none⟩) (by simp; omega) (.int .i64 p)).setCell (p := ⟨w.heap.size + 1 + 1 + 1, 1, none⟩) (by simp; omega) (.int .i64 0)))
        clear hsv hq hmem hW y3 y3' hw1
        generalize (((w1.drew.setCell ⟨w.heap.size + 1 + 1 + 1, 0, none⟩ (.int .i64 p)).setCell ⟨w.heap.size + 1 + 1 + 1, 1, none⟩ (.int .i64 0)) : World) = w9 at *
        go_wp2
        refine bodyPost_ret (v := .tuple #[.agg #[.int .i64 p, .int .i64 0], .bool true]) (by simp [results, Try.results126, go_sem, *]; done) rfl ?_
        exact ⟨by rw [HE.out, HDD.out], HBW.out⟩
end Go.Proofs.Ytjeecdoffoahkaa
