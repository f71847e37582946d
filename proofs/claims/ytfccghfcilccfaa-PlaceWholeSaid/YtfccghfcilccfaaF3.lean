/- silolaw15.PlaceWhole answers true. Printed by gen_f3.py. -/
import Derived.Test.YtfccghfcilccfaaE5
import Derived.Test.YtfccghfcilccfaaE6
import Derived.Test.YtfccghfcilccfaaE13
import Derived.Test.YtfccghfcilccfaaP4
import Derived.Deep.CutBlock
namespace Go.Proofs.Ytfccghfcilccfaa
open Go.RowKit Go.Silo

theorem own_bools {T : TypeId} {w : World} {base : Nat} {S S' : Nat → Prop} {A : Option Addr} {n c : Nat} {xs : List Bool} (h : Own T boolE w base S A n c xs) : Own T boolE w base S' A n c xs := by
  obtain ⟨cells, ho, hl, hx⟩ := h
  exact ⟨cells, ho, hl, hx⟩
/-- The truths behind the loop's first k rounds: those of pieces that lie nowhere are untrue. -/
def maskL (l : List Bool) (x : Stripe) : Nat → List Bool
  | 0 => l
  | k + 1 => (maskL l x k).set k ((maskL l x k).getD k false && decide (0 ≤ (x.place.getD k default).disk))
theorem maskL_len (l : List Bool) (x : Stripe) : ∀ k, (maskL l x k).length = l.length
  | 0 => rfl
  | k + 1 => by show ((maskL l x k).set _ _).length = _; rw [List.length_set]; exact maskL_len l x k
theorem maskL_ok {l : List Bool} {x : Stripe} : ∀ k, k ≤ l.length → ∀ q, q < k → (maskL l x k).getD q false = true → 0 ≤ (x.place.getD q default).disk
  | k + 1, hk, q, hq, h => by
    have e : maskL l x (k + 1) = (maskL l x k).set k ((maskL l x k).getD k false && decide (0 ≤ (x.place.getD k default).disk)) := rfl
    rw [e] at h
    by_cases hqk : q = k
    · subst hqk
      rw [getD_set_self (by rw [maskL_len]; omega)] at h
      simp only [Bool.and_eq_true, decide_eq_true_eq] at h
      exact h.2
    · rw [getD_set_ne (Ne.symm hqk)] at h
      exact maskL_ok k (by omega) q (by omega) h
theorem needR_zero {s : Shape} {x : Stripe} {y : SlotsD} {l : List Bool} (h : (needR s x y l).2.2 = 0) : needR s x y l = needX s x y l ∧ SlotsOk y := by
  unfold needR at *
  by_cases hc : stripeOk s x = true ∧ slotsOkB y = true ∧ (l.length : Int) = s.K + s.M
  · rw [if_pos hc]; exact ⟨rfl, slotsOk_of hc.2.1⟩
  · rw [if_neg hc] at h; cases h
theorem NB.set {W0 : World} {s : Shape} {x : Stripe} {Ap : Option Addr} {np cp g5 g6 : Nat} {V : World} (h : NB W0 s x Ap np cp g5 g6 V) {a : Addr} (h0 : W0.heap.size ≤ a.block) (h5 : a.block ≠ g5) (h6 : a.block ≠ g6) (v : Value) : NB W0 s x Ap np cp g5 g6 (V.setCell a v) :=
  ⟨(Below.heap_setCell _ _ _ _ (Ne.symm h5)).trans h.r5, (Below.heap_setCell _ _ _ _ (Ne.symm h6)).trans h.r6, h.below.setCell h0 _⟩

set_option maxRecDepth 100000 in
set_option maxHeartbeats 16000000 in
theorem PlaceWhole_c {S : Nat → Prop} {w : World} {p : AskP} {As Ax A0 A1 Ag An : Option Addr} {ns cs nx cx n0 c0 n1 c1 ng cg nn cn : Nat} (hB : AskB p) (h : AskR w S p As ns cs Ax nx cx A0 n0 c0 A1 n1 c1 Ag ng cg An nn cn) :
    Calls Try.prog 10 #[.agg #[.slice As ns cs, .slice Ax nx cx, .slice A0 n0 c0, .slice A1 n1 c1, .slice Ag ng cg, .slice An nn cn]] w (RetV (.bool true) w) := by
  have HLS := Lib.hid h.s.len
  have HLX := Lib.hid h.x.len
  have HLG := Lib.hid h.g.len
  have hcs : ns ≤ 9223372036854775807 := Nat.le_trans h.s.le h.s.cap
  have hcx : nx ≤ 9223372036854775807 := Nat.le_trans h.x.le h.x.cap
  have HR := Lib.hid (fun W (hW : Below w.heap.size w W) => h.all hW)
  have hrow := heap_alloc_new w (.cells #[.slice As ns cs, .slice Ax nx cx, .slice A0 n0 c0, .slice A1 n1 c1, .slice Ag ng cg, .slice An nn cn] 76)
  have hz : w.heap.size < (w.alloc (.cells #[.slice As ns cs, .slice Ax nx cx, .slice A0 n0 c0, .slice A1 n1 c1, .slice Ag ng cg, .slice An nn cn] 76)).heap.size := by simp
  have hal : Below w.heap.size w (w.alloc (.cells #[.slice As ns cs, .slice Ax nx cx, .slice A0 n0 c0, .slice A1 n1 c1, .slice Ag ng cg, .slice An nn cn] 76)) := (by repeat' (first | (with_reducible exact Below.refl _ _) | (with_reducible refine Below.alloc ?_ ?_ _) | (with_reducible refine Below.drew ?_) | (with_reducible refine below_drewN ?_ _) | (with_reducible refine Below.setCell ?_ ?_ _) | (refine via ?_ (by with_reducible assumption) ?_) | (refine via ?_ (below_ext _ _) ?_) | go_size))
  have HHV := Lib.hid (Heavy15_c hB (h.all hal)); clear hB h
  go_enter Try.func10, Try.ntmps10
  go_upto_region 1 with (fail)
  generalize (w.alloc (.cells #[.slice As ns cs, .slice Ax nx cx, .slice A0 n0 c0, .slice A1 n1 c1, .slice Ag ng cg, .slice An nn cn] 76)) = W0 at *
  have HAL := Lib.hid (fun W (hW : Below W0.heap.size W0 W) => hal.trans (hW.mono (Nat.le_of_lt hz))); clear hal
  have CELLS : Hid (∀ W, Below W0.heap.size W0 W → W.cell? ⟨w.heap.size, 0, none⟩ = some (.slice As ns cs) ∧ W.cell? ⟨w.heap.size, 1, none⟩ = some (.slice Ax nx cx) ∧ W.cell? ⟨w.heap.size, 2, none⟩ = some (.slice A0 n0 c0) ∧ W.cell? ⟨w.heap.size, 3, none⟩ = some (.slice A1 n1 c1) ∧ W.cell? ⟨w.heap.size, 4, none⟩ = some (.slice Ag ng cg) ∧ W.cell? ⟨w.heap.size, 5, none⟩ = some (.slice An nn cn)) := Lib.hid (fun W hW => by
    have r := (hW.block _ hz).trans hrow
    exact ⟨cell_of_row W _ 0 _ _ _ r, cell_of_row W _ 1 _ _ _ r, cell_of_row W _ 2 _ _ _ r, cell_of_row W _ 3 _ _ _ r, cell_of_row W _ 4 _ _ _ r, cell_of_row W _ 5 _ _ _ r⟩)
  clear hrow
  obtain ⟨y0, y1, y2, y3, y4, y5⟩ := CELLS.out W0 (Below.refl _ _)
  go_wp2_with fail
  refine HHV.out.mono ?_
  clear y0 y1 y2 y3 y4 y5
  rintro e w1 ⟨v, rfl, hb1, hlt0⟩
  have HB1 := Lib.hid hb1; clear hb1
  have HLT0 := Lib.hid hlt0; clear hlt0
  cases v with
  | true =>
    go_wp2
    go_ret
    exact ⟨by trivial, HAL.out _ HB1.out⟩
  | false =>
    have HLT := Lib.hid (HLT0.out rfl); clear HLT0
    go_wp2_with fail
    go_loopw [3] (fun i wr => ∃ k : Nat, k ≤ ns ∧ i = .int .i64 k ∧ Hid (Below W0.heap.size W0 wr)) (fun i _ => ns - (intOf i).toNat)
    case atStart => exact ⟨0, Nat.zero_le _, rfl, HB1⟩
    case round =>
      rename World => wo
      obtain ⟨ka, hka, rfl, HBo⟩ := hrel
      clear HB1
      obtain ⟨y0, y1, y2, y3, y4, y5⟩ := CELLS.out wo HBo.out
      have hzo : w.heap.size < wo.heap.size := Nat.lt_of_lt_of_le hz HBo.out.size
      by_cases hlt : ka < ns
      · by_cases hlt5 : ka < 5
        · go_wp2_with fail
          clear y0 y1 y2 y3 y4 y5
          rw [show decide ((ka : Int) < 5) = true from decide_eq_true (by omega)]
          go_loopw [4] (fun i wr => ∃ k : Nat, k ≤ nx ∧ i = .int .i64 k ∧ Hid (Below W0.heap.size W0 wr)) (fun i _ => nx - (intOf i).toNat)
          case atStart => exact ⟨0, Nat.zero_le _, rfl, HBo⟩
          case round =>
            rename World => wi
            obtain ⟨kb, hkb, rfl, HBi⟩ := hrel
            obtain ⟨y0, y1, y2, y3, y4, y5⟩ := CELLS.out wi HBi.out
            have hzi : w.heap.size < wi.heap.size := Nat.lt_of_lt_of_le hz HBi.out.size
            by_cases hltb : kb < nx
            · by_cases hltb5 : kb < 5
              · obtain ⟨bs, os, rfl, _, hbls, j1, j2, j3, q0, q1, q2, _⟩ := (HR.out wi (HAL.out _ HBi.out)).s.shape_at hlt
                obtain ⟨bx, ox, Ap, np, cp, rfl, _, hblx, i1, i2, i3, hpl, z0, z1, z2, z3, _⟩ := (HR.out wi (HAL.out _ HBi.out)).x.stripe_at hltb
                have hpl3 : (p.x.getD kb default).place.length ≤ 3000 := HLT.out.2.2.1 _ (getD_mem (d := default) (by have := HLX.out; omega))
                generalize p.s.getD ka default = s at *
                generalize p.x.getD kb default = x at *
                have HSI := Lib.hid (show I64 s.K ∧ I64 s.M ∧ I64 s.size from ⟨j1, j2, j3⟩); clear j1 j2 j3
                have HXI := Lib.hid (show I64 x.id ∧ I64 x.len ∧ I64 x.gen from ⟨i1, i2, i3⟩); clear i1 i2 i3
                have HPL := Lib.hid hpl.lt_block; clear hpl
                have HP3 := Lib.hid hpl3; clear hpl3
                have CEL : Hid (∀ us w6, WdT wi wi.heap.size (R9 wi) (fun _ => True) 12 13 (st91 (.int .i64 s.K) (.int .i64 s.M) (.int .i64 s.size)) (st92 (.int .i64 x.id) (.int .i64 x.len) (.int .i64 x.gen) (.slice Ap np cp)) us w6 → (w6.cell? ⟨w.heap.size, 0, none⟩ = some (.slice (some ⟨bs, os, none⟩) ns cs) ∧ w6.cell? ⟨w.heap.size, 1, none⟩ = some (.slice (some ⟨bx, ox, none⟩) nx cx)) ∧
                    (w6.cell? ⟨bs, os + ka * 3, none⟩ = some (.int .i64 s.K) ∧ w6.cell? ⟨bs, os + ka * 3 + 1, none⟩ = some (.int .i64 s.M) ∧ w6.cell? ⟨bs, os + ka * 3 + 2, none⟩ = some (.int .i64 s.size)) ∧
                    (w6.cell? ⟨bx, ox + kb * 4, none⟩ = some (.int .i64 x.id) ∧ w6.cell? ⟨bx, ox + kb * 4 + 1, none⟩ = some (.int .i64 x.len) ∧ w6.cell? ⟨bx, ox + kb * 4 + 2, none⟩ = some (.int .i64 x.gen) ∧ w6.cell? ⟨bx, ox + kb * 4 + 3, none⟩ = some (.slice Ap np cp))) := Lib.hid (fun us w6 hW => by
                  have hb := hW.below (Nat.le_refl _)
                  exact ⟨⟨(hb.cell (p := ⟨w.heap.size, 0, none⟩) hzi).trans y0, (hb.cell (p := ⟨w.heap.size, 1, none⟩) hzi).trans y1⟩, ⟨(hb.cell (p := ⟨bs, os + ka * 3, none⟩) hbls).trans q0, (hb.cell (p := ⟨bs, os + ka * 3 + 1, none⟩) hbls).trans q1, (hb.cell (p := ⟨bs, os + ka * 3 + 2, none⟩) hbls).trans q2⟩,
                    ⟨(hb.cell (p := ⟨bx, ox + kb * 4, none⟩) hblx).trans z0, (hb.cell (p := ⟨bx, ox + kb * 4 + 1, none⟩) hblx).trans z1, (hb.cell (p := ⟨bx, ox + kb * 4 + 2, none⟩) hblx).trans z2, (hb.cell (p := ⟨bx, ox + kb * 4 + 3, none⟩) hblx).trans z3⟩⟩)
                go_wp2_with fail
                clear y0 y1 y2 y3 y4 y5 q0 q1 q2 z0 z1 z2 z3
                refine region_free (by kernel_rfl) (by kernel_rfl) 148 rfl [40, 41, 42, 43, 44, 45, 46, 47, 48, 49, 5, 6] [10, 11, 12, 13] [(5, 10), (6, 11)]
                  [(40, [], fun _ => .pointer (some ⟨w.heap.size, 0, none⟩)), (41, [], fun _ => .slice (some ⟨bs, os, none⟩) ns cs), (42, [], fun _ => .int .i64 (ka : Int)), (43, [], fun _ => .pointer (some ⟨bs, os + ka * 3, none⟩)), (44, [], fun _ => .agg #[.int .i64 s.K, .int .i64 s.M, .int .i64 s.size]),
                    (45, [], fun _ => .pointer (some ⟨w.heap.size, 1, none⟩)), (46, [], fun _ => .slice (some ⟨bx, ox, none⟩) nx cx), (47, [], fun _ => .int .i64 (kb : Int)), (48, [], fun _ => .pointer (some ⟨bx, ox + kb * 4, none⟩)), (49, [], fun _ => .agg #[.int .i64 x.id, .int .i64 x.len, .int .i64 x.gen, .slice Ap np cp])]
                  [[], [], [], [], [], [], [], [], [], [], [12], [12], [], []] [[], [], [], [], [], [], [], [], [], [], [], [], [10, 11], [10, 11, 12]] [[], [40], [], [41, 42], [43], [], [45], [], [46, 47], [48], [], [], [5, 44], [6, 49]]
                  (WdT wi wi.heap.size (R9 wi) (fun _ => True) 12 13 (st91 (.int .i64 s.K) (.int .i64 s.M) (.int .i64 s.size)) (st92 (.int .i64 x.id) (.int .i64 x.len) (.int .i64 x.gen) (.slice Ap np cp))) (by kernel_rfl) .init ⟨?_, ?_, ?_, ?_, ?_, ?_, ?_, ?_, ?_, ?_, ?_, ?_, ?_, ?_, trivial⟩ ?_
                -- FAST14 cdot
                · (refine OpH.rd rfl rfl (fun ρ us w6 ho ht hc hl hsrc hW => ?_); have e1 := (ho 1 rfl).trans (show _ = (.pointer (some ⟨w.heap.size, 0, none⟩) : Value) from rfl); clear ht ho; simp only [execOp, e1]; go_simp; try rfl)
                · (refine OpH.rd rfl rfl (fun ρ us w6 ho ht hc hl hsrc hW => ?_); have e40 := (ht 40 (by decide)).trans (show _ = (.pointer (some ⟨w.heap.size, 0, none⟩) : Value) from rfl); obtain ⟨⟨y0, y1⟩, _⟩ := CEL.out us w6 hW; clear ht ho; simp only [execOp, e40]; go_simp; try rfl)
                · (refine OpH.rd rfl rfl (fun ρ us w6 ho ht hc hl hsrc hW => ?_); have e3 := (ho 3 rfl).trans (show _ = (.int .i64 (ka : Int) : Value) from rfl); clear ht ho; simp only [execOp, e3]; go_simp; try rfl)
                · (refine OpH.rd rfl rfl (fun ρ us w6 ho ht hc hl hsrc hW => ?_); have e41 := (ht 41 (by decide)).trans (show _ = (.slice (some ⟨bs, os, none⟩) ns cs : Value) from rfl); have e42 := (ht 42 (by decide)).trans (show _ = (.int .i64 (ka : Int) : Value) from rfl); clear ht ho; simp only [execOp, e41, e42]; go_simp; try rfl)
                · (refine OpH.rd rfl rfl (fun ρ us w6 ho ht hc hl hsrc hW => ?_); have e43 := (ht 43 (by decide)).trans (show _ = (.pointer (some ⟨bs, os + ka * 3, none⟩) : Value) from rfl); obtain ⟨_, ⟨q0, q1, q2⟩, _⟩ := CEL.out us w6 hW; clear ht ho; simp only [execOp, e43]; go_simp; try rfl)
                · (refine OpH.rd rfl rfl (fun ρ us w6 ho ht hc hl hsrc hW => ?_); have e1 := (ho 1 rfl).trans (show _ = (.pointer (some ⟨w.heap.size, 0, none⟩) : Value) from rfl); clear ht ho; simp only [execOp, e1]; go_simp; try rfl)
                · (refine OpH.rd rfl rfl (fun ρ us w6 ho ht hc hl hsrc hW => ?_); have e45 := (ht 45 (by decide)).trans (show _ = (.pointer (some ⟨w.heap.size, 1, none⟩) : Value) from rfl); obtain ⟨⟨y0, y1⟩, _⟩ := CEL.out us w6 hW; clear ht ho; simp only [execOp, e45]; go_simp; try rfl)
                · (refine OpH.rd rfl rfl (fun ρ us w6 ho ht hc hl hsrc hW => ?_); have e4 := (ho 4 rfl).trans (show _ = (.int .i64 (kb : Int) : Value) from rfl); clear ht ho; simp only [execOp, e4]; go_simp; try rfl)
                · (refine OpH.rd rfl rfl (fun ρ us w6 ho ht hc hl hsrc hW => ?_); have e46 := (ht 46 (by decide)).trans (show _ = (.slice (some ⟨bx, ox, none⟩) nx cx : Value) from rfl); have e47 := (ht 47 (by decide)).trans (show _ = (.int .i64 (kb : Int) : Value) from rfl); clear ht ho; simp only [execOp, e46, e47]; go_simp; try rfl)
                · (refine OpH.rd rfl rfl (fun ρ us w6 ho ht hc hl hsrc hW => ?_); have e48 := (ht 48 (by decide)).trans (show _ = (.pointer (some ⟨bx, ox + kb * 4, none⟩) : Value) from rfl); obtain ⟨_, _, z0, z1, z2, z3⟩ := CEL.out us w6 hW; clear ht ho; simp only [execOp, e48]; go_simp; try rfl)
                · refine OpH.wr rfl (fun Z us w6 ho ht hni hlim hreq hW K hK => ?_)
                  have hdone := hW.snoc (i := 10) (x := .pointer (some ⟨w6.heap.size, 0, none⟩)) (by decide) (by decide) (hlim 12 (by decide)) ((Below.refl _ _).alloc (Nat.le_refl _) (.cells #[.int .i64 0, .int .i64 0, .int .i64 0] 23)) (fun j v h => R9.all ((Below.refl _ _).alloc (Nat.le_refl _) _) j v h) ⟨fun _ => ⟨_, rfl, (hW.below (Nat.le_refl _)).size, heap_alloc_new _ _⟩, fun h => absurd h (by decide)⟩
                  have HDN := Lib.hid hdone; clear hdone hW hni hlim hreq ho ht
                  rw [if_pos (by simp [Region.wanted])]
                  unfold Oper.wp
                  generalize Z.eval = ρ at *
                  simp only [execOp]
                  go_simp
                  exact hK _ _ HDN.out
                · refine OpH.wr rfl (fun Z us w6 ho ht hni hlim hreq hW K hK => ?_)
                  have hdone := hW.snoc (i := 11) (x := .pointer (some ⟨w6.heap.size, 0, none⟩)) (by decide) (by decide) (hlim 12 (by decide)) ((Below.refl _ _).alloc (Nat.le_refl _) (.cells #[.int .i64 0, .int .i64 0, .int .i64 0, .slice none 0 0] 79)) (fun j v h => R9.all ((Below.refl _ _).alloc (Nat.le_refl _) _) j v h) ⟨fun h => absurd h (by decide), fun _ => ⟨_, rfl, (hW.below (Nat.le_refl _)).size, heap_alloc_new _ _⟩⟩
                  have HDN := Lib.hid hdone; clear hdone hW hni hlim hreq ho ht
                  rw [if_pos (by simp [Region.wanted])]
                  unfold Oper.wp
                  generalize Z.eval = ρ at *
                  simp only [execOp]
                  go_simp
                  exact hK _ _ HDN.out
                · refine OpH.wr rfl (fun Z us w6 ho ht hni hlim hreq hW K hK => ?_)
                  obtain ⟨g, ev, hg, hr⟩ := (hW.at_ hni (hreq 10 (by decide))).1 rfl
                  have e5 := ((ht 5 (by decide)).trans (show _ = (us.lookup 10).getD undef from rfl)).trans ev
                  have e44 := (ht 44 (by decide)).trans (show _ = (.agg #[.int .i64 s.K, .int .i64 s.M, .int .i64 s.size] : Value) from rfl)
                  have hst : st91 (.int .i64 s.K) (.int .i64 s.M) (.int .i64 s.size) us w6 = ((w6.setCell ⟨g, 0, none⟩ (.int .i64 s.K)).setCell ⟨g, 1, none⟩ (.int .i64 s.M)).setCell ⟨g, 2, none⟩ (.int .i64 s.size) := by unfold st91; rw [ev]; rfl
                  have hdone := hW.store1 hni (x := undef) trivial (by rw [hst]; exact (((hW.below (Nat.le_refl _)).setCell hg _).setCell hg _).setCell hg _)
                  rw [hst] at hdone
                  have f0 := (cell_of_row w6 g 0 _ _ _ hr).trans (show _ = some (Value.int .i64 0) from rfl)
                  have f1 := (cell_of_row w6 g 1 _ _ _ hr).trans (show _ = some (Value.int .i64 0) from rfl)
                  have f2 := (cell_of_row w6 g 2 _ _ _ hr).trans (show _ = some (Value.int .i64 0) from rfl)
                  have f3 := frozen_of_row w6 g 0 _ _ hr
                  have f4 := frozen_of_row w6 g 1 _ _ hr
                  have f5 := frozen_of_row w6 g 2 _ _ hr
                  have HDN := Lib.hid hdone; clear hdone hW hni hlim hreq ho ht hst hr ev
                  rw [if_pos (by simp [Region.wanted])]
                  unfold Oper.wp
                  generalize Z.eval = ρ at *
                  simp only [execOp, e5, e44]
                  go_simp
                  exact hK undef _ HDN.out
                · refine OpH.wr rfl (fun Z us w6 ho ht hni hlim hreq hW K hK => ?_)
                  have q10 := hreq 10 (by decide)
                  have q11 := hreq 11 (by decide)
                  obtain ⟨us0, W6, x0, rfl, rfl, hb, hR, hn1, hn2, _, hb1⟩ := hW.mid (hreq 12 (by decide)) hni
                  obtain ⟨v10, l10, m10⟩ := lookup_mem (before_mid q10 (by decide))
                  obtain ⟨v11, l11, m11⟩ := lookup_mem (before_mid q11 (by decide))
                  obtain ⟨g5, rfl, hg5, r5⟩ := (hR 10 v10 m10).1 rfl
                  obtain ⟨g6, rfl, hg6, r6⟩ := (hR 11 v11 m11).2 rfl
                  have hne : g6 ≠ g5 := fun e => by rw [e, r5] at r6; cases r6
                  have e6 := ((ht 6 (by decide)).trans (show _ = ((us0 ++ [(12, x0)]).lookup 11).getD undef from rfl)).trans (show _ = (.pointer (some ⟨g6, 0, none⟩) : Value) by rw [lookup_mid (by decide), l11]; rfl)
                  have e49 := (ht 49 (by decide)).trans (show _ = (.agg #[.int .i64 x.id, .int .i64 x.len, .int .i64 x.gen, .slice Ap np cp] : Value) from rfl)
                  have r6' : (st91 (.int .i64 s.K) (.int .i64 s.M) (.int .i64 s.size) us0 W6).heap[g6]? = some (.cells #[.int .i64 0, .int .i64 0, .int .i64 0, .slice none 0 0] 79 (0, 0)) := by
                    unfold st91
                    rw [l10]
                    show ((((W6.setCell ⟨g5, 0, none⟩ _).setCell ⟨g5, 1, none⟩ _).setCell ⟨g5, 2, none⟩ _)).heap[g6]? = _
                    rw [Below.heap_setCell _ _ _ _ hne, Below.heap_setCell _ _ _ _ hne, Below.heap_setCell _ _ _ _ hne]; exact r6
                  have hst : ∀ W, st92 (.int .i64 x.id) (.int .i64 x.len) (.int .i64 x.gen) (.slice Ap np cp) us0 W = (((W.setCell ⟨g6, 0, none⟩ (.int .i64 x.id)).setCell ⟨g6, 1, none⟩ (.int .i64 x.len)).setCell ⟨g6, 2, none⟩ (.int .i64 x.gen)).setCell ⟨g6, 3, none⟩ (.slice Ap np cp) := fun W => by unfold st92; rw [l11]; rfl
                  have hdone := WdT.two (V := wi) (m := wi.heap.size) (R := R9 wi) (Pre := fun _ => True) (st1 := st91 (.int .i64 s.K) (.int .i64 s.M) (.int .i64 s.size)) (st2 := st92 (.int .i64 x.id) (.int .i64 x.len) (.int .i64 x.gen) (.slice Ap np cp)) (x := x0) (x' := undef) hb hR hn1 hn2 trivial (by rw [hst]; exact (((hb1.setCell hg6 _).setCell hg6 _).setCell hg6 _).setCell hg6 _)
                  rw [hst] at hdone
                  have HDN := Lib.hid hdone; clear hdone hst hb hR hn1 hn2 hb1 hW hni hlim hreq ho ht q10 q11 l10 l11 m10 m11 r5 r6
                  generalize st91 (.int .i64 s.K) (.int .i64 s.M) (.int .i64 s.size) us0 W6 = W7 at *
                  have f0 := (cell_of_row W7 g6 0 _ _ _ r6').trans (show _ = some (Value.int .i64 0) from rfl)
                  have f1 := (cell_of_row W7 g6 1 _ _ _ r6').trans (show _ = some (Value.int .i64 0) from rfl)
                  have f2 := (cell_of_row W7 g6 2 _ _ _ r6').trans (show _ = some (Value.int .i64 0) from rfl)
                  have f3 := (cell_of_row W7 g6 3 _ _ _ r6').trans (show _ = some (Value.slice none 0 0) from rfl)
                  have f4 := frozen_of_row W7 g6 0 _ _ r6'
                  have f5 := frozen_of_row W7 g6 1 _ _ r6'
                  have f6 := frozen_of_row W7 g6 2 _ _ r6'
                  have f7 := frozen_of_row W7 g6 3 _ _ r6'
                  clear r6'
                  rw [if_pos (by simp [Region.wanted])]
                  unfold Oper.wp
                  generalize Z.eval = ρ at *
                  simp only [execOp, e6, e49]
                  go_simp
                  exact hK undef _ HDN.out
                -- TSAF
                · intro us w9 hmem hW
                  have hB9 := hW.below (Nat.le_refl _)
                  obtain ⟨us0, W6, x0, x1, rfl, rfl, hb, hR, hn1, hn2, _, hb2⟩ := hW.last (hmem 13 (by decide)) (by decide)
                  obtain ⟨v10, l10, m10⟩ := lookup_mem (before_last (hmem 10 (by decide)) (by decide) (by decide))
                  obtain ⟨v11, l11, m11⟩ := lookup_mem (before_last (hmem 11 (by decide)) (by decide) (by decide))
                  obtain ⟨g5, rfl, hg5, r5⟩ := (hR 10 v10 m10).1 rfl
                  obtain ⟨g6, rfl, hg6, r6⟩ := (hR 11 v11 m11).2 rfl
                  have hne : g6 ≠ g5 := fun e => by rw [e, r5] at r6; cases r6
                  have hst1 : st91 (.int .i64 s.K) (.int .i64 s.M) (.int .i64 s.size) us0 W6 = ((W6.setCell ⟨g5, 0, none⟩ (.int .i64 s.K)).setCell ⟨g5, 1, none⟩ (.int .i64 s.M)).setCell ⟨g5, 2, none⟩ (.int .i64 s.size) := by unfold st91; rw [l10]; rfl
                  have hst2 : ∀ W, st92 (.int .i64 x.id) (.int .i64 x.len) (.int .i64 x.gen) (.slice Ap np cp) us0 W = (((W.setCell ⟨g6, 0, none⟩ (.int .i64 x.id)).setCell ⟨g6, 1, none⟩ (.int .i64 x.len)).setCell ⟨g6, 2, none⟩ (.int .i64 x.gen)).setCell ⟨g6, 3, none⟩ (.slice Ap np cp) := fun W => by unfold st92; rw [l11]; rfl
                  rw [hst2, hst1] at hB9 ⊢
                  have R5 := row_set3 (u := .int .i64 s.K) (v := .int .i64 s.M) (z := .int .i64 s.size) r5
                  have R6 : (((W6.setCell ⟨g5, 0, none⟩ (.int .i64 s.K)).setCell ⟨g5, 1, none⟩ (.int .i64 s.M)).setCell ⟨g5, 2, none⟩ (.int .i64 s.size)).heap[g6]? = _ := (Below.heap_setCell _ _ _ _ hne).trans ((Below.heap_setCell _ _ _ _ hne).trans ((Below.heap_setCell _ _ _ _ hne).trans r6))
                  have RR6 := row_set4 (u := .int .i64 x.id) (v := .int .i64 x.len) (z := .int .i64 x.gen) (y := .slice Ap np cp) R6
                  have hne' := Ne.symm hne
                  have RR5 := (Below.heap_setCell ((((((W6.setCell ⟨g5, 0, none⟩ (.int .i64 s.K)).setCell ⟨g5, 1, none⟩ (.int .i64 s.M)).setCell ⟨g5, 2, none⟩ (.int .i64 s.size)).setCell ⟨g6, 0, none⟩ (.int .i64 x.id)).setCell ⟨g6, 1, none⟩ (.int .i64 x.len)).setCell ⟨g6, 2, none⟩ (.int .i64 x.gen)) ⟨g6, 3, none⟩ (.slice Ap np cp) g5 hne').trans ((Below.heap_setCell _ _ _ _ hne').trans ((Below.heap_setCell _ _ _ _ hne').trans ((Below.heap_setCell _ _ _ _ hne').trans R5)))
                  simp only [putAll, List.map_cons, List.map_nil, List.foldl_cons, List.foldl_nil, Act.put, List.setIfInBounds_toArray, List.set_cons_succ, List.set_cons_zero]
                  generalize hsv : slotAt _ _ _ = sv
                  have hs5 : sv 5 = .pointer (some ⟨g5, 0, none⟩) := by rw [← hsv]; show ((us0 ++ [(12, x0)] ++ [(13, x1)]).lookup 10).getD undef = _; rw [lookup_last (by decide) (by decide), l10]; rfl
                  have hs6 : sv 6 = .pointer (some ⟨g6, 0, none⟩) := by rw [← hsv]; show ((us0 ++ [(12, x0)] ++ [(13, x1)]).lookup 11).getD undef = _; rw [lookup_last (by decide) (by decide), l11]; rfl
                  rw [hs5, hs6]
                  clear hsv hs5 hs6 hst1 hst2 hb hR hn1 hn2 hb2 hW hmem l10 l11 m10 m11 r5 r6 R5 R6 CEL
                  generalize ((((((W6.setCell ⟨g5, 0, none⟩ (.int .i64 s.K)).setCell ⟨g5, 1, none⟩ (.int .i64 s.M)).setCell ⟨g5, 2, none⟩ (.int .i64 s.size)).setCell ⟨g6, 0, none⟩ (.int .i64 x.id)).setCell ⟨g6, 1, none⟩ (.int .i64 x.len)).setCell ⟨g6, 2, none⟩ (.int .i64 x.gen)).setCell ⟨g6, 3, none⟩ (.slice Ap np cp) = w9 at *
                  have HNB := Lib.hid (show NB W0 s x Ap np cp g5 g6 w9 from ⟨RR5, RR6, HBi.out.trans (hB9.mono HBi.out.size)⟩)
                  have HPL9 := Lib.hid (HPL.out.all hB9); clear HPL
                  have s9 := hB9.size
                  clear RR5 RR6 hB9 hne hne' hg5 hg6
                  obtain ⟨⟨k0, k1, k2⟩, ⟨z0, z1, z2, z3⟩⟩ := HNB.out.cells
                  have hzg5 := HNB.out.h5
                  have hzg6 := HNB.out.h6
                  go_wp2_with fail
                  refine (refStripe_c (s := s) (x := x) HPL9.out).mono ?_
                  clear k0 k1 k2 z0 z1 z2 z3
                  rintro e w10 ⟨rfl, hb10⟩
                  have HNB2 := Lib.hid (HNB.out.all hb10); clear HNB
                  have HPL2 := Lib.hid (HPL9.out.all hb10); clear HPL9
                  have s10 : wi.heap.size ≤ w10.heap.size := Nat.le_trans s9 hb10.size
                  clear hb10 s9 hzg5 hzg6 hzi hzo
                  have HBi2 := HNB2.out.below
                  cases hr : stripeOk s x with
                  | false =>
                    have HBz := Lib.hid HBi2
                    clear hr HNB2 HPL2 HBi2
                    go_wp2
                    exact ⟨⟨kb + 1, by omega, by go_num, HBz⟩, by simp [intOf]; omega⟩
                  | true =>
                    have HMAY := Lib.hid hr; clear hr
                    have hsb := stripeOk_dims HMAY.out
                    obtain ⟨n, hn⟩ := Int.eq_ofNat_of_zero_le (show 0 ≤ s.K + s.M by omega)
                    have hpn : np = n := by have := HPL2.out.len; omega
                    have hn14 : n ≤ 14 := by omega
                    have hn1 : 1 ≤ n := by omega
                    have hgd := good_c (w := w10) (p := p) (s := s) (n := n) hn.symm (by omega) ⟨by omega, by omega⟩ (by have := HLT.out.1.2.2.1; have := HLG.out; omega) (HR.out w10 (HAL.out _ HBi2))
                    have HGD := Lib.hid hgd; clear hgd hn hsb
                    subst hpn
                    obtain ⟨⟨k0, k1, k2⟩, _⟩ := HNB2.out.cells
                    obtain ⟨y0, y1, y2, y3, y4, y5⟩ := CELLS.out w10 HBi2
                    go_wp2_with fail
                    refine HGD.out.mono ?_
                    clear HGD k0 k1 k2 y0 y1 y2 y3 y4 y5 HBi2
                    rintro e w15 ⟨Ad, cd, rfl, hown, hb15⟩
                    rw [goodL_len] at hown ⊢
                    obtain ⟨gg, rfl, hgg, hggl⟩ := hown.form (by omega)
                    have HNB7 := Lib.hid (HNB2.out.all hb15)
                    have HPL7 := Lib.hid (HPL2.out.all hb15)
                    have HOW := Lib.hid (own_bools (S' := fun _ => False) hown); clear hown
                    have h5g : g5 < gg := Nat.lt_of_lt_of_le HNB2.out.h5 hgg
                    have h6g : g6 < gg := Nat.lt_of_lt_of_le HNB2.out.h6 hgg
                    have hwg : W0.heap.size ≤ gg := Nat.le_trans HNB2.out.below.size hgg
                    have hw10 : W0.heap.size ≤ w10.heap.size := HNB2.out.below.size
                    clear HNB2 HPL2 hb15 hggl
                    go_wp2_with fail
                    go_loopw [8] (fun i wr => ∃ q : Nat, q ≤ np ∧ i = .int .i64 q ∧ Hid (NB W0 s x Ap np cp g5 g6 wr) ∧ Hid (Sl false 104 slotE wr (fun b => b < w10.heap.size) Ap np cp x.place) ∧ Hid (Own 4 boolE wr w10.heap.size (fun _ => False) (some ⟨gg, 0, none⟩) np cd (maskL (goodL p.g np) x q))) (fun i _ => np - (intOf i).toNat)
                    case atStart => exact ⟨0, Nat.zero_le _, rfl, HNB7, Lib.hid (HPL7.out.mono (fun b hb _ => Nat.lt_of_lt_of_le hb.2 s10)), HOW⟩
                    case round =>
                      clear HNB7 HPL7 HOW
                      obtain ⟨q, hq, rfl, HNB, HPL, HOW⟩ := hrel
                      by_cases hltq : q < np
                      · obtain ⟨bp, op, rfl, _, hblp, _, _, hc0, _, _⟩ := HPL.out.slot_at hltq
                        obtain ⟨bg, og, e, _, hbg, hbc, hbf⟩ := (HOW.out.sl (tg := true)).bool_at hltq
                        injection e with e; injection e with e1 e2; subst e1 e2
                        simp only [Nat.zero_add] at hbc hbf
                        have hstep : ∀ v : Bool, v = ((maskL (goodL p.g np) x q).getD q false && decide (0 ≤ (x.place.getD q default).disk)) → NB W0 s x (some ⟨bp, op, none⟩) np cp g5 g6 (wr.setCell ⟨gg, q, none⟩ (.bool v)) ∧ Sl false 104 slotE (wr.setCell ⟨gg, q, none⟩ (.bool v)) (fun b => b < w10.heap.size) (some ⟨bp, op, none⟩) np cp x.place ∧ Own 4 boolE (wr.setCell ⟨gg, q, none⟩ (.bool v)) w10.heap.size (fun _ => False) (some ⟨gg, 0, none⟩) np cd (maskL (goodL p.g np) x (q + 1)) := fun v hv => by
                          refine ⟨?_, ?_, ?_⟩
                          · exact HNB.out.set (a := ⟨gg, q, none⟩) hwg (fun e => by have : gg = g5 := e; omega) (fun e => by have : gg = g6 := e; omega) _
                          · exact HPL.out.frame (Agree.setCell (fun hh => by have : gg < w10.heap.size := hh; omega) _) (by simp)
                          · rw [hv]
                            exact HOW.out.set1 rfl hltq ⟨rfl, trivial⟩
                        obtain ⟨_, z0, z1, z2, z3⟩ := HNB.out.cells
                        generalize hsl : x.place.getD q default = sl at *
                        generalize hev : (maskL (goodL p.g np) x q).getD q false = ev at *
                        have HSTEP := Lib.hid hstep
                        clear hstep hsl hev
                        cases ev with
                        | false =>
                          have HS := Lib.hid (HSTEP.out false rfl)
                          go_upto_region 14 with (fail)
                          clear hbc hbf z0 z1 z2 z3 hc0
                          generalize wr.setCell ⟨gg, q, none⟩ (.bool false) = w9 at *
                          go_wp2
                          exact ⟨⟨q + 1, by omega, by go_num, Lib.hid HS.out.1, Lib.hid HS.out.2.1, Lib.hid HS.out.2.2⟩, by simp [intOf]; omega⟩
                        | true =>
                          by_cases hd : 0 ≤ sl.disk
                          · have HS := Lib.hid (HSTEP.out true (by rw [decide_eq_true hd]; rfl))
                            go_upto_region 14 with (fail)
                            clear hbc hbf z0 z1 z2 z3 hc0
                            generalize wr.setCell ⟨gg, q, none⟩ (.bool true) = w9 at *
                            go_wp2
                            exact ⟨⟨q + 1, by omega, by go_num, Lib.hid HS.out.1, Lib.hid HS.out.2.1, Lib.hid HS.out.2.2⟩, by simp [intOf]; omega⟩
                          · have HS := Lib.hid (HSTEP.out false (by rw [decide_eq_false hd]; rfl))
                            go_upto_region 14 with (fail)
                            clear hbc hbf z0 z1 z2 z3 hc0
                            generalize wr.setCell ⟨gg, q, none⟩ (.bool false) = w9 at *
                            go_wp2
                            exact ⟨⟨q + 1, by omega, by go_num, Lib.hid HS.out.1, Lib.hid HS.out.2.1, Lib.hid HS.out.2.2⟩, by simp [intOf]; omega⟩
                      · obtain rfl : np = q := by omega
                        generalize hgl : maskL (goodL p.g np) x np = gl at *
                        have HGL := Lib.hid (show gl.length = np ∧ ∀ q, q < np → gl.getD q false = true → 0 ≤ (x.place.getD q default).disk from ⟨by rw [← hgl, maskL_len, goodL_len], fun q hq h => maskL_ok np (by rw [goodL_len]; exact Nat.le_refl _) q hq (by rw [hgl]; exact h)⟩); clear hgl
                        have HPN := Lib.hid HPL.out.len
                        have hA := HR.out wr (HAL.out _ HNB.out.below)
                        have HND := Lib.hid (Needs_c HSI.out HXI.out HPL.out hA.y0 hA.y1 (HOW.out.sl (tg := false))); clear hA
                        obtain ⟨⟨k0, k1, k2⟩, ⟨z0, z1, z2, z3⟩⟩ := HNB.out.cells
                        obtain ⟨_, _, y2, y3, _, _⟩ := CELLS.out wr HNB.out.below
                        go_wp2_with fail
                        refine HND.out.mono ?_
                        clear HND k0 k1 k2 z0 z1 z2 z3 y2 y3
                        rintro e w21 ⟨Ai, ni, ci, At, nt, ct, D0, q0, r0, D1, q1, r1, rfl, ti, tt, tl, tf, hb21⟩
                        generalize hRR : needR s x p.y gl = RR at *
                        have HRR := Lib.hid hRR; clear hRR
                        have HT := Lib.hid (show _ ∧ _ ∧ _ ∧ _ from ⟨ti, tt, tl, tf⟩); clear ti tt tl tf
                        have HB21 := Lib.hid hb21; clear hb21
                        go_upto_region 17 with (fail)
                        have hno := NO.made (R := RR) (m := wr.heap.size) HT.out.1 HT.out.2.1 HT.out.2.2.1 HT.out.2.2.2 HB21.out.size
                        have hb22 : Below wr.heap.size wr ((w21.alloc (.cells #[.int .i64 RR.1.stripe, .slice Ai ni ci, .slice At nt ct] 88)).alloc (.cells #[.slice D0 q0 r0, .slice D1 q1 r1] 62)) := (HB21.out.alloc HB21.out.size _).alloc (by have := HB21.out.size; simp; omega) _
                        clear HT HB21
                        generalize ((w21.alloc (.cells #[.int .i64 RR.1.stripe, .slice Ai ni ci, .slice At nt ct] 88)).alloc (.cells #[.slice D0 q0 r0, .slice D1 q1 r1] 62)) = w22 at *
                        generalize hm22 : w21.heap.size + 1 + 1 = m22 at *
                        generalize w21.heap.size + 1 = gs at *
                        generalize w21.heap.size = gn at *
                        clear hm22
                        have HNB3 := Lib.hid (HNB.out.all hb22); clear HNB
                        have HPL3 := Lib.hid (HPL.out.all hb22); clear HPL
                        have HOW3 := Lib.hid (HOW.out.all hb22); clear HOW hb22
                        have HNO3 := Lib.hid hno; clear hno
                        go_wp2_with fail
                        refine num15_c.mono ?_
                        rintro e w23 ⟨rfl, hb23⟩
                        have HNB4 := Lib.hid (HNB3.out.all hb23); clear HNB3
                        have HPL4 := Lib.hid (HPL3.out.all hb23); clear HPL3
                        have HOW4 := Lib.hid (HOW3.out.all hb23); clear HOW3
                        have HNO4 := Lib.hid (HNO3.out.all hb23); clear HNO3 hb23
                        by_cases hz0 : RR.2.2 = 0
                        · have hlaw : (movedR s x RR.1 = (movedX x RR.1, freeP x RR.1 RR.1.index.length, 0) ∧ stripeOk s (movedX x RR.1) = true ∧ slotsOkB RR.2.1 = true ∧ ∀ q, q < x.place.length → 0 ≤ ((movedX x RR.1).place.getD q default).disk ∧ (gl.getD q false = true → (movedX x RR.1).place.getD q default = x.place.getD q default)) ∧ (movedX x RR.1).place.length = np := by
                            obtain ⟨h1, h2⟩ := needR_zero (s := s) (x := x) (y := p.y) (l := gl) (by rw [HRR.out]; exact hz0)
                            rw [HRR.out] at h1
                            have h3 := whole_law (s := s) (x := x) (y := p.y) (gl := gl) HMAY.out h2 (by rw [HGL.out.1, HPN.out]) (fun q hq => HGL.out.2 q (by rw [HPN.out] at hq; exact hq)) (by rw [← h1]; exact hz0)
                            rw [← h1] at h3
                            exact ⟨h3, by rw [show (movedX x RR.1).place = movP x RR.1 RR.1.index.length from rfl, movP_len, HPN.out]⟩
                          have hq0 : (RR.2.2 != 0) = false := by simp [hz0]
                          have hmv := Moved_c (w := w23) (s := s) (x := x) (nd := RR.1) HSI.out HXI.out HPL4.out HNO4.out.i HNO4.out.t
                          rw [hlaw.1.1] at hmv
                          have HLAW := Lib.hid (show stripeOk s (movedX x RR.1) = true ∧ slotsOkB RR.2.1 = true ∧ (∀ q, q < np → 0 ≤ ((movedX x RR.1).place.getD q default).disk ∧ (gl.getD q false = true → (movedX x RR.1).place.getD q default = x.place.getD q default)) ∧ (movedX x RR.1).place.length = np from ⟨hlaw.1.2.1, hlaw.1.2.2.1, fun q hq => hlaw.1.2.2.2 q (by rw [HPN.out]; exact hq), hlaw.2⟩)
                          clear hlaw hz0
                          generalize movedX x RR.1 = x2 at *
                          generalize freeP x RR.1 RR.1.index.length = fl at *
                          have HMV := Lib.hid hmv; clear hmv
                          obtain ⟨⟨k0, k1, k2⟩, ⟨z0, z1, z2, z3⟩⟩ := HNB4.out.cells
                          obtain ⟨⟨a0, a1, a2⟩, _⟩ := HNO4.out.cells
                          go_wp2_with fail
                          refine HMV.out.mono ?_
                          clear HMV k0 k1 k2 z0 z1 z2 z3 a0 a1 a2 hq0
                          rintro e w24 ⟨A2, n2, c2, B2, m2, d2, rfl, tp, _, hb24⟩
                          dsimp only at tp ⊢
                          have hn2 : np = n2 := by have := tp.len; have := HLAW.out.2.2.2; omega
                          subst hn2
                          have HTP := Lib.hid tp; clear tp
                          have HB24 := Lib.hid hb24; clear hb24
                          go_upto_region 19 with (fail)
                          have hrow := heap_alloc_new w24 (.cells #[.int .i64 x2.id, .int .i64 x2.len, .int .i64 x2.gen, .slice A2 np c2] 79)
                          have hal : Below w24.heap.size w24 (w24.alloc (.cells #[.int .i64 x2.id, .int .i64 x2.len, .int .i64 x2.gen, .slice A2 np c2] 79)) := (Below.refl _ _).alloc (Nat.le_refl _) _
                          have hlt : w24.heap.size < (w24.alloc (.cells #[.int .i64 x2.id, .int .i64 x2.len, .int .i64 x2.gen, .slice A2 np c2] 79)).heap.size := by simp
                          have hb25 : Below w23.heap.size w23 (w24.alloc (.cells #[.int .i64 x2.id, .int .i64 x2.len, .int .i64 x2.gen, .slice A2 np c2] 79)) := HB24.out.alloc HB24.out.size _
                          have htp := HTP.out.all hal
                          clear HTP HB24 hal
                          generalize (w24.alloc (.cells #[.int .i64 x2.id, .int .i64 x2.len, .int .i64 x2.gen, .slice A2 np c2] 79)) = w25 at *
                          generalize w24.heap.size = g12 at *
                          have HNB5 := Lib.hid (HNB4.out.all hb25); clear HNB4
                          have HPL5 := Lib.hid (HPL4.out.all hb25); clear HPL4
                          have HOW5 := Lib.hid (HOW4.out.all hb25); clear HOW4
                          have HNO5 := Lib.hid (HNO4.out.all hb25); clear HNO4 hb25
                          have HTP5 := Lib.hid htp; clear htp
                          have KEEP := Lib.hid (fun V (hV : Below w25.heap.size w25 V) => And.intro (HNB5.out.all hV) (And.intro (HPL5.out.all hV) (And.intro (HOW5.out.all hV) (And.intro (HNO5.out.all hV) (And.intro (HTP5.out.all hV) ((hV.block _ hlt).trans hrow))))))
                          have KL := Lib.hid (show g5 < w25.heap.size ∧ g6 < w25.heap.size ∧ gg < w25.heap.size from ⟨HNB5.out.h5, HNB5.out.h6, (HOW5.out.lt gg rfl).2⟩)
                          clear hrow HNB5 HPL5 HOW5 HNO5 HTP5
                          go_wp2_with fail
                          refine num15_c.mono ?_
                          rintro e w26 ⟨rfl, hb26⟩
                          have HB26 := Lib.hid hb26; clear hb26
                          obtain ⟨nb, pl, ow, no, tp, row⟩ := KEEP.out w26 HB26.out
                          have hq := refStripe_c (w := w26) (s := s) (x := x2) tp
                          rw [HLAW.out.1] at hq
                          have HQ := Lib.hid hq; clear hq
                          obtain ⟨⟨k0, k1, k2⟩, _⟩ := nb.cells
                          have z0 := cell_of_row _ _ 0 _ _ _ row
                          have z1 := cell_of_row _ _ 1 _ _ _ row
                          have z2 := cell_of_row _ _ 2 _ _ _ row
                          have z3 := cell_of_row _ _ 3 _ _ _ row
                          clear nb pl ow no tp row
                          go_wp2_with fail
                          refine HQ.out.mono ?_
                          clear HQ k0 k1 k2 z0 z1 z2 z3
                          rintro e w27 ⟨rfl, hb27⟩
                          have HB27 := Lib.hid (HB26.out.trans (hb27.mono HB26.out.size)); clear hb27 HB26
                          obtain ⟨nb, pl, ow, no, tp, row⟩ := KEEP.out w27 HB27.out
                          have hq := refSlots_c (w := w27) (x := RR.2.1) no.l no.f
                          rw [HLAW.out.2.1] at hq
                          have HQ := Lib.hid hq; clear hq
                          obtain ⟨_, a0, a1⟩ := no.cells
                          clear nb pl ow no tp row
                          go_wp2_with fail
                          refine HQ.out.mono ?_
                          clear HQ a0 a1
                          rintro e w28 ⟨rfl, hb28⟩
                          have HB28 := Lib.hid (HB27.out.trans (hb28.mono HB27.out.size)); clear hb28 HB27
                          go_wp2_with fail
                          go_loopw [15] (fun i wr => ∃ q : Nat, q ≤ np ∧ i = .int .i64 q ∧ Hid (Below w25.heap.size w25 wr)) (fun i _ => np - (intOf i).toNat)
                          case atStart => exact ⟨0, Nat.zero_le _, rfl, HB28⟩
                          case round =>
                            clear HB28
                            obtain ⟨q, hq, rfl, HBq⟩ := hrel
                            obtain ⟨nb, pl, ow, no, tp, row⟩ := KEEP.out wr HBq.out
                            have z3 := (cell_of_row _ _ 3 _ _ _ row).trans (show _ = some (Value.slice A2 np c2) from rfl)
                            by_cases hltq : q < np
                            · obtain ⟨b2, o2, rfl, _, hbl2, _, _, e0, e1, _⟩ := tp.slot_at hltq
                              obtain ⟨bp, op, rfl, _, hblp, _, _, i0, i1, _⟩ := pl.slot_at hltq
                              obtain ⟨bg, og, e, _, hbg, hbc, _⟩ := (ow.sl (tg := true)).bool_at hltq
                              injection e with e; injection e with e1' e2'; subst e1' e2'
                              simp only [Nat.zero_add] at hbc
                              obtain ⟨l1, l2⟩ := HLAW.out.2.2.1 q hltq
                              obtain ⟨_, _, _, _, q3⟩ := nb.cells
                              have hk6 := nb.h6
                              have h12 : g12 < wr.heap.size := (Array.getElem?_eq_some_iff.1 row).1
                              clear nb pl ow no tp row
                              generalize x2.place.getD q default = s2 at *
                              generalize x.place.getD q default = s1 at *
                              generalize gl.getD q false = ev at *
                              have hnl : ¬ s2.disk < 0 := by omega
                              clear l1
                              have HBend := Lib.hid HBq
                              have CEL := Lib.hid (fun w6 (hb : Below wr.heap.size wr w6) => And.intro ((hb.cell (p := ⟨g12, 3, none⟩) h12).trans z3) (And.intro ((hb.cell (p := ⟨b2, o2 + q * 2, none⟩) hbl2).trans e0) (And.intro ((hb.cell (p := ⟨b2, o2 + q * 2 + 1, none⟩) hbl2).trans e1) (And.intro ((hb.cell (p := ⟨gg, q, none⟩) hbg).trans hbc) (And.intro ((hb.cell (p := ⟨g6, 3, none⟩) hk6).trans q3) (And.intro ((hb.cell (p := ⟨bp, op + q * 2, none⟩) hblp).trans i0) ((hb.cell (p := ⟨bp, op + q * 2 + 1, none⟩) hblp).trans i1)))))))
                              clear e0 e1 hbc q3 i0 i1
                              cases ev with
                              | false =>
                                clear l2
                                go_wp2_with fail
                                clear z3
                                refine region_free (by kernel_rfl) (by kernel_rfl) 148 rfl [121, 122, 123, 124, 125, 126, 127, 128, 129, 130, 131, 132, 133, 134, 135, 136, 137, 138, 139, 140, 141, 142, 143, 144, 145, 146] [] []
                                  [(121, [], fun _ => .pointer (some ⟨g12, 3, none⟩)), (122, [], fun _ => .slice (some ⟨b2, o2, none⟩) np c2), (123, [], fun _ => .int .i64 (q : Int)), (124, [], fun _ => .pointer (some ⟨b2, o2 + q * 2, none⟩)), (125, [], fun _ => .pointer (some ⟨b2, o2 + q * 2, none⟩)), (126, [], fun _ => .int .i64 s2.disk), (127, [], fun _ => .bool false), (128, [], fun _ => .bool false), (129, [], fun _ => .slice (some ⟨gg, 0, none⟩) np cd), (130, [], fun _ => .int .i64 (q : Int)), (131, [], fun _ => .pointer (some ⟨gg, q, none⟩)), (132, [], fun _ => .bool false), (133, [], fun _ => .bool false), (134, [], fun _ => undef), (135, [], fun _ => undef), (136, [], fun _ => undef), (137, [], fun _ => undef), (138, [], fun _ => undef), (139, [], fun _ => undef), (140, [], fun _ => undef), (141, [], fun _ => undef), (142, [], fun _ => undef), (143, [], fun _ => undef), (144, [], fun _ => undef), (145, [], fun _ => .bool false), (146, [], fun _ => .bool false)]
                                  [] [] [[], [121], [], [122, 123], [124], [125], [126], [127], [128], [128], [129, 130, 128], [131, 128], [132, 128], [133], [134, 133], [133], [135, 136, 133], [137, 133], [133], [139, 133], [133], [140, 141, 133], [142, 133], [138, 143, 133], [133, 144, 128], [128, 145]] (WdB wr (fun _ _ _ => True)) (by kernel_rfl) .init ⟨?_, ?_, ?_, ?_, ?_, ?_, ?_, ?_, ?_, ?_, ?_, ?_, ?_, ?_, ?_, ?_, ?_, ?_, ?_, ?_, ?_, ?_, ?_, ?_, ?_, ?_, trivial⟩ ?_
                                -- FAST26 cdot
                                · (refine OpH.rd rfl rfl (fun ρ us w6 ho ht hc hl hsrc hW => ?_); have e12 := (ho 12 rfl).trans (show _ = (.pointer (some ⟨g12, 0, none⟩) : Value) from rfl); clear ht ho; simp only [execOp, e12]; go_simp; try rfl)
                                · (refine OpH.rd rfl rfl (fun ρ us w6 ho ht hc hl hsrc hW => ?_); have e121 := (ht 121 (by decide)).trans (show _ = (.pointer (some ⟨g12, 3, none⟩) : Value) from rfl); obtain ⟨c0, c1, c2', c3, c4, c5, c6⟩ := CEL.out w6 hW.1; clear ht ho; simp only [execOp, e121]; go_simp; try rfl)
                                · (refine OpH.rd rfl rfl (fun ρ us w6 ho ht hc hl hsrc hW => ?_); have e15 := (ho 15 rfl).trans (show _ = (.int .i64 (q : Int) : Value) from rfl); clear ht ho; simp only [execOp, e15]; go_simp; try rfl)
                                · (refine OpH.rd rfl rfl (fun ρ us w6 ho ht hc hl hsrc hW => ?_); have e122 := (ht 122 (by decide)).trans (show _ = (.slice (some ⟨b2, o2, none⟩) np c2 : Value) from rfl); have e123 := (ht 123 (by decide)).trans (show _ = (.int .i64 (q : Int) : Value) from rfl); clear ht ho; simp only [execOp, e122, e123]; go_simp; try rfl)
                                · (refine OpH.rd rfl rfl (fun ρ us w6 ho ht hc hl hsrc hW => ?_); have e124 := (ht 124 (by decide)).trans (show _ = (.pointer (some ⟨b2, o2 + q * 2, none⟩) : Value) from rfl); clear ht ho; simp only [execOp, e124]; go_simp; try rfl)
                                · (refine OpH.rd rfl rfl (fun ρ us w6 ho ht hc hl hsrc hW => ?_); have e125 := (ht 125 (by decide)).trans (show _ = (.pointer (some ⟨b2, o2 + q * 2, none⟩) : Value) from rfl); obtain ⟨c0, c1, c2', c3, c4, c5, c6⟩ := CEL.out w6 hW.1; clear ht ho; simp only [execOp, e125]; go_simp; try rfl)
                                · (refine OpH.rd rfl rfl (fun ρ us w6 ho ht hc hl hsrc hW => ?_); have e126 := (ht 126 (by decide)).trans (show _ = (.int .i64 s2.disk : Value) from rfl); clear ht ho; simp only [execOp, e126]; go_simp; exact congrArg Value.bool (decide_eq_false (by omega)))
                                · (refine OpH.rd rfl rfl (fun ρ us w6 ho ht hc hl hsrc hW => ?_); have e127 := (ht 127 (by decide)).trans (show _ = (.bool false : Value) from rfl); clear ht ho; simp only [execOp, e127]; go_simp; try rfl)
                                · (refine OpH.rdg rfl 7 128 false rfl rfl (by decide) (fun _ _ _ => rfl) (fun ρ us w6 ho ht hc hl hsrc hW => ?_); have e7 := (ho 7 rfl).trans (show _ = (.slice (some ⟨gg, 0, none⟩) np cd : Value) from rfl); clear ht ho; simp only [execOp, e7]; go_simp; try rfl)
                                · (refine OpH.rdg rfl 7 128 false rfl rfl (by decide) (fun _ _ _ => rfl) (fun ρ us w6 ho ht hc hl hsrc hW => ?_); have e15 := (ho 15 rfl).trans (show _ = (.int .i64 (q : Int) : Value) from rfl); clear ht ho; simp only [execOp, e15]; go_simp; try rfl)
                                · (refine OpH.rdg rfl 7 128 false rfl rfl (by decide) (fun _ _ _ => rfl) (fun ρ us w6 ho ht hc hl hsrc hW => ?_); have e129 := (ht 129 (by decide)).trans (show _ = (.slice (some ⟨gg, 0, none⟩) np cd : Value) from rfl); have e130 := (ht 130 (by decide)).trans (show _ = (.int .i64 (q : Int) : Value) from rfl); clear ht ho; simp only [execOp, e129, e130]; go_simp; try rfl)
                                · (refine OpH.rdg rfl 7 128 false rfl rfl (by decide) (fun _ _ _ => rfl) (fun ρ us w6 ho ht hc hl hsrc hW => ?_); have e131 := (ht 131 (by decide)).trans (show _ = (.pointer (some ⟨gg, q, none⟩) : Value) from rfl); obtain ⟨c0, c1, c2', c3, c4, c5, c6⟩ := CEL.out w6 hW.1; clear ht ho; simp only [execOp, e131]; go_simp; try rfl)
                                · (refine OpH.rdg rfl 7 128 false rfl rfl (by decide) (fun _ _ _ => rfl) (fun ρ us w6 ho ht hc hl hsrc hW => ?_); have e132 := (ht 132 (by decide)).trans (show _ = (.bool false : Value) from rfl); clear ht ho; simp only [execOp, e132]; go_simp; try rfl)
                                · (exact OpH.rdn rfl 12 133 true rfl rfl (by decide) (fun _ _ _ => rfl) (fun _ => rfl))
                                · (exact OpH.rdn rfl 12 133 true rfl rfl (by decide) (fun _ _ _ => rfl) (fun _ => rfl))
                                · (exact OpH.rdn rfl 12 133 true rfl rfl (by decide) (fun _ _ _ => rfl) (fun _ => rfl))
                                · (exact OpH.rdn rfl 12 133 true rfl rfl (by decide) (fun _ _ _ => rfl) (fun _ => rfl))
                                · (exact OpH.rdn rfl 12 133 true rfl rfl (by decide) (fun _ _ _ => rfl) (fun _ => rfl))
                                · (exact OpH.rdn rfl 12 133 true rfl rfl (by decide) (fun _ _ _ => rfl) (fun _ => rfl))
                                · (exact OpH.rdn rfl 12 133 true rfl rfl (by decide) (fun _ _ _ => rfl) (fun _ => rfl))
                                · (exact OpH.rdn rfl 12 133 true rfl rfl (by decide) (fun _ _ _ => rfl) (fun _ => rfl))
                                · (exact OpH.rdn rfl 12 133 true rfl rfl (by decide) (fun _ _ _ => rfl) (fun _ => rfl))
                                · (exact OpH.rdn rfl 12 133 true rfl rfl (by decide) (fun _ _ _ => rfl) (fun _ => rfl))
                                · (exact OpH.rdn rfl 12 133 true rfl rfl (by decide) (fun _ _ _ => rfl) (fun _ => rfl))
                                · (refine OpH.rdg rfl 7 128 false rfl rfl (by decide) (fun _ _ _ => rfl) (fun ρ us w6 ho ht hc hl hsrc hW => ?_); have e133 := (ht 133 (by decide)).trans (show _ = (.bool false : Value) from rfl); have e144 := (ht 144 (by decide)).trans (show _ = (undef : Value) from rfl); clear ht ho; simp only [execOp, e133, e144]; go_simp; try rfl)
                                · (refine OpH.rd rfl rfl (fun ρ us w6 ho ht hc hl hsrc hW => ?_); have e128 := (ht 128 (by decide)).trans (show _ = (.bool false : Value) from rfl); have e145 := (ht 145 (by decide)).trans (show _ = (.bool false : Value) from rfl); clear ht ho; simp only [execOp, e128, e145]; go_simp; try rfl)
                                -- TSAF
                                · intro us w9 hmem hW
                                  simp only [putAll, List.map_cons, List.map_nil, List.foldl_cons, List.foldl_nil, Act.put, List.setIfInBounds_toArray, List.set_cons_succ, List.set_cons_zero]
                                  generalize hsv : slotAt _ _ us = sv
                                  have h146 : sv 146 = .bool false := by rw [← hsv]; rfl
                                  rw [h146]
                                  have HB9 := Lib.hid (HBq.out.trans (hW.1.mono HBq.out.size))
                                  clear hsv h146 hmem hW CEL
                                  go_wp2
                                  exact ⟨⟨q + 1, by omega, by go_num, HB9⟩, by simp [intOf]; omega⟩
                              | true =>
                                have hss := l2 rfl
                                subst hss
                                go_wp2_with fail
                                clear z3
                                refine region_free (by kernel_rfl) (by kernel_rfl) 148 rfl [121, 122, 123, 124, 125, 126, 127, 128, 129, 130, 131, 132, 133, 134, 135, 136, 137, 138, 139, 140, 141, 142, 143, 144, 145, 146] [] []
                                  [(121, [], fun _ => .pointer (some ⟨g12, 3, none⟩)), (122, [], fun _ => .slice (some ⟨b2, o2, none⟩) np c2), (123, [], fun _ => .int .i64 (q : Int)), (124, [], fun _ => .pointer (some ⟨b2, o2 + q * 2, none⟩)), (125, [], fun _ => .pointer (some ⟨b2, o2 + q * 2, none⟩)), (126, [], fun _ => .int .i64 s2.disk), (127, [], fun _ => .bool false), (128, [], fun _ => .bool false), (129, [], fun _ => .slice (some ⟨gg, 0, none⟩) np cd), (130, [], fun _ => .int .i64 (q : Int)), (131, [], fun _ => .pointer (some ⟨gg, q, none⟩)), (132, [], fun _ => .bool true), (133, [], fun _ => .bool true), (134, [], fun _ => .pointer (some ⟨g12, 3, none⟩)), (135, [], fun _ => .slice (some ⟨b2, o2, none⟩) np c2), (136, [], fun _ => .int .i64 (q : Int)), (137, [], fun _ => .pointer (some ⟨b2, o2 + q * 2, none⟩)), (138, [], fun _ => .agg #[.int .i64 s2.disk, .int .i64 s2.pos]), (139, [], fun _ => .pointer (some ⟨g6, 3, none⟩)), (140, [], fun _ => .slice (some ⟨bp, op, none⟩) np cp), (141, [], fun _ => .int .i64 (q : Int)), (142, [], fun _ => .pointer (some ⟨bp, op + q * 2, none⟩)), (143, [], fun _ => .agg #[.int .i64 s2.disk, .int .i64 s2.pos]), (144, [], fun _ => .bool false), (145, [], fun _ => .bool false), (146, [], fun _ => .bool false)]
                                  [] [] [[], [121], [], [122, 123], [124], [125], [126], [127], [128], [128], [129, 130, 128], [131, 128], [132, 128], [133], [134, 133], [133], [135, 136, 133], [137, 133], [133], [139, 133], [133], [140, 141, 133], [142, 133], [138, 143, 133], [133, 144, 128], [128, 145]] (WdB wr (fun _ _ _ => True)) (by kernel_rfl) .init ⟨?_, ?_, ?_, ?_, ?_, ?_, ?_, ?_, ?_, ?_, ?_, ?_, ?_, ?_, ?_, ?_, ?_, ?_, ?_, ?_, ?_, ?_, ?_, ?_, ?_, ?_, trivial⟩ ?_
                                -- FAST26 cdot
                                · (refine OpH.rd rfl rfl (fun ρ us w6 ho ht hc hl hsrc hW => ?_); have e12 := (ho 12 rfl).trans (show _ = (.pointer (some ⟨g12, 0, none⟩) : Value) from rfl); clear ht ho; simp only [execOp, e12]; go_simp; try rfl)
                                · (refine OpH.rd rfl rfl (fun ρ us w6 ho ht hc hl hsrc hW => ?_); have e121 := (ht 121 (by decide)).trans (show _ = (.pointer (some ⟨g12, 3, none⟩) : Value) from rfl); obtain ⟨c0, c1, c2', c3, c4, c5, c6⟩ := CEL.out w6 hW.1; clear ht ho; simp only [execOp, e121]; go_simp; try rfl)
                                · (refine OpH.rd rfl rfl (fun ρ us w6 ho ht hc hl hsrc hW => ?_); have e15 := (ho 15 rfl).trans (show _ = (.int .i64 (q : Int) : Value) from rfl); clear ht ho; simp only [execOp, e15]; go_simp; try rfl)
                                · (refine OpH.rd rfl rfl (fun ρ us w6 ho ht hc hl hsrc hW => ?_); have e122 := (ht 122 (by decide)).trans (show _ = (.slice (some ⟨b2, o2, none⟩) np c2 : Value) from rfl); have e123 := (ht 123 (by decide)).trans (show _ = (.int .i64 (q : Int) : Value) from rfl); clear ht ho; simp only [execOp, e122, e123]; go_simp; try rfl)
                                · (refine OpH.rd rfl rfl (fun ρ us w6 ho ht hc hl hsrc hW => ?_); have e124 := (ht 124 (by decide)).trans (show _ = (.pointer (some ⟨b2, o2 + q * 2, none⟩) : Value) from rfl); clear ht ho; simp only [execOp, e124]; go_simp; try rfl)
                                · (refine OpH.rd rfl rfl (fun ρ us w6 ho ht hc hl hsrc hW => ?_); have e125 := (ht 125 (by decide)).trans (show _ = (.pointer (some ⟨b2, o2 + q * 2, none⟩) : Value) from rfl); obtain ⟨c0, c1, c2', c3, c4, c5, c6⟩ := CEL.out w6 hW.1; clear ht ho; simp only [execOp, e125]; go_simp; try rfl)
                                · (refine OpH.rd rfl rfl (fun ρ us w6 ho ht hc hl hsrc hW => ?_); have e126 := (ht 126 (by decide)).trans (show _ = (.int .i64 s2.disk : Value) from rfl); clear ht ho; simp only [execOp, e126]; go_simp; exact congrArg Value.bool (decide_eq_false (by omega)))
                                · (refine OpH.rd rfl rfl (fun ρ us w6 ho ht hc hl hsrc hW => ?_); have e127 := (ht 127 (by decide)).trans (show _ = (.bool false : Value) from rfl); clear ht ho; simp only [execOp, e127]; go_simp; try rfl)
                                · (refine OpH.rdg rfl 7 128 false rfl rfl (by decide) (fun _ _ _ => rfl) (fun ρ us w6 ho ht hc hl hsrc hW => ?_); have e7 := (ho 7 rfl).trans (show _ = (.slice (some ⟨gg, 0, none⟩) np cd : Value) from rfl); clear ht ho; simp only [execOp, e7]; go_simp; try rfl)
                                · (refine OpH.rdg rfl 7 128 false rfl rfl (by decide) (fun _ _ _ => rfl) (fun ρ us w6 ho ht hc hl hsrc hW => ?_); have e15 := (ho 15 rfl).trans (show _ = (.int .i64 (q : Int) : Value) from rfl); clear ht ho; simp only [execOp, e15]; go_simp; try rfl)
                                · (refine OpH.rdg rfl 7 128 false rfl rfl (by decide) (fun _ _ _ => rfl) (fun ρ us w6 ho ht hc hl hsrc hW => ?_); have e129 := (ht 129 (by decide)).trans (show _ = (.slice (some ⟨gg, 0, none⟩) np cd : Value) from rfl); have e130 := (ht 130 (by decide)).trans (show _ = (.int .i64 (q : Int) : Value) from rfl); clear ht ho; simp only [execOp, e129, e130]; go_simp; try rfl)
                                · (refine OpH.rdg rfl 7 128 false rfl rfl (by decide) (fun _ _ _ => rfl) (fun ρ us w6 ho ht hc hl hsrc hW => ?_); have e131 := (ht 131 (by decide)).trans (show _ = (.pointer (some ⟨gg, q, none⟩) : Value) from rfl); obtain ⟨c0, c1, c2', c3, c4, c5, c6⟩ := CEL.out w6 hW.1; clear ht ho; simp only [execOp, e131]; go_simp; try rfl)
                                · (refine OpH.rdg rfl 7 128 false rfl rfl (by decide) (fun _ _ _ => rfl) (fun ρ us w6 ho ht hc hl hsrc hW => ?_); have e132 := (ht 132 (by decide)).trans (show _ = (.bool true : Value) from rfl); clear ht ho; simp only [execOp, e132]; go_simp; try rfl)
                                · (refine OpH.rdg rfl 12 133 true rfl rfl (by decide) (fun _ _ _ => rfl) (fun ρ us w6 ho ht hc hl hsrc hW => ?_); have e12 := (ho 12 rfl).trans (show _ = (.pointer (some ⟨g12, 0, none⟩) : Value) from rfl); clear ht ho; simp only [execOp, e12]; go_simp; try rfl)
                                · (refine OpH.rdg rfl 12 133 true rfl rfl (by decide) (fun _ _ _ => rfl) (fun ρ us w6 ho ht hc hl hsrc hW => ?_); have e134 := (ht 134 (by decide)).trans (show _ = (.pointer (some ⟨g12, 3, none⟩) : Value) from rfl); obtain ⟨c0, c1, c2', c3, c4, c5, c6⟩ := CEL.out w6 hW.1; clear ht ho; simp only [execOp, e134]; go_simp; try rfl)
                                · (refine OpH.rdg rfl 12 133 true rfl rfl (by decide) (fun _ _ _ => rfl) (fun ρ us w6 ho ht hc hl hsrc hW => ?_); have e15 := (ho 15 rfl).trans (show _ = (.int .i64 (q : Int) : Value) from rfl); clear ht ho; simp only [execOp, e15]; go_simp; try rfl)
                                · (refine OpH.rdg rfl 12 133 true rfl rfl (by decide) (fun _ _ _ => rfl) (fun ρ us w6 ho ht hc hl hsrc hW => ?_); have e135 := (ht 135 (by decide)).trans (show _ = (.slice (some ⟨b2, o2, none⟩) np c2 : Value) from rfl); have e136 := (ht 136 (by decide)).trans (show _ = (.int .i64 (q : Int) : Value) from rfl); clear ht ho; simp only [execOp, e135, e136]; go_simp; try rfl)
                                · (refine OpH.rdg rfl 12 133 true rfl rfl (by decide) (fun _ _ _ => rfl) (fun ρ us w6 ho ht hc hl hsrc hW => ?_); have e137 := (ht 137 (by decide)).trans (show _ = (.pointer (some ⟨b2, o2 + q * 2, none⟩) : Value) from rfl); obtain ⟨c0, c1, c2', c3, c4, c5, c6⟩ := CEL.out w6 hW.1; clear ht ho; simp only [execOp, e137]; go_simp; try rfl)
                                · (refine OpH.rdg rfl 12 133 true rfl rfl (by decide) (fun _ _ _ => rfl) (fun ρ us w6 ho ht hc hl hsrc hW => ?_); have e6 := (ho 6 rfl).trans (show _ = (.pointer (some ⟨g6, 0, none⟩) : Value) from rfl); clear ht ho; simp only [execOp, e6]; go_simp; try rfl)
                                · (refine OpH.rdg rfl 12 133 true rfl rfl (by decide) (fun _ _ _ => rfl) (fun ρ us w6 ho ht hc hl hsrc hW => ?_); have e139 := (ht 139 (by decide)).trans (show _ = (.pointer (some ⟨g6, 3, none⟩) : Value) from rfl); obtain ⟨c0, c1, c2', c3, c4, c5, c6⟩ := CEL.out w6 hW.1; clear ht ho; simp only [execOp, e139]; go_simp; try rfl)
                                · (refine OpH.rdg rfl 12 133 true rfl rfl (by decide) (fun _ _ _ => rfl) (fun ρ us w6 ho ht hc hl hsrc hW => ?_); have e15 := (ho 15 rfl).trans (show _ = (.int .i64 (q : Int) : Value) from rfl); clear ht ho; simp only [execOp, e15]; go_simp; try rfl)
                                · (refine OpH.rdg rfl 12 133 true rfl rfl (by decide) (fun _ _ _ => rfl) (fun ρ us w6 ho ht hc hl hsrc hW => ?_); have e140 := (ht 140 (by decide)).trans (show _ = (.slice (some ⟨bp, op, none⟩) np cp : Value) from rfl); have e141 := (ht 141 (by decide)).trans (show _ = (.int .i64 (q : Int) : Value) from rfl); clear ht ho; simp only [execOp, e140, e141]; go_simp; try rfl)
                                · (refine OpH.rdg rfl 12 133 true rfl rfl (by decide) (fun _ _ _ => rfl) (fun ρ us w6 ho ht hc hl hsrc hW => ?_); have e142 := (ht 142 (by decide)).trans (show _ = (.pointer (some ⟨bp, op + q * 2, none⟩) : Value) from rfl); obtain ⟨c0, c1, c2', c3, c4, c5, c6⟩ := CEL.out w6 hW.1; clear ht ho; simp only [execOp, e142]; go_simp; try rfl)
                                · (refine OpH.rdg rfl 12 133 true rfl rfl (by decide) (fun _ _ _ => rfl) (fun ρ us w6 ho ht hc hl hsrc hW => ?_); have e138 := (ht 138 (by decide)).trans (show _ = (.agg #[.int .i64 s2.disk, .int .i64 s2.pos] : Value) from rfl); have e143 := (ht 143 (by decide)).trans (show _ = (.agg #[.int .i64 s2.disk, .int .i64 s2.pos] : Value) from rfl); clear ht ho; simp only [execOp, e138, e143]; go_simp; try rfl)
                                · (refine OpH.rdg rfl 7 128 false rfl rfl (by decide) (fun _ _ _ => rfl) (fun ρ us w6 ho ht hc hl hsrc hW => ?_); have e133 := (ht 133 (by decide)).trans (show _ = (.bool true : Value) from rfl); have e144 := (ht 144 (by decide)).trans (show _ = (.bool false : Value) from rfl); clear ht ho; simp only [execOp, e133, e144]; go_simp; try rfl)
                                · (refine OpH.rd rfl rfl (fun ρ us w6 ho ht hc hl hsrc hW => ?_); have e128 := (ht 128 (by decide)).trans (show _ = (.bool false : Value) from rfl); have e145 := (ht 145 (by decide)).trans (show _ = (.bool false : Value) from rfl); clear ht ho; simp only [execOp, e128, e145]; go_simp; try rfl)
                                -- TSAF
                                · intro us w9 hmem hW
                                  simp only [putAll, List.map_cons, List.map_nil, List.foldl_cons, List.foldl_nil, Act.put, List.setIfInBounds_toArray, List.set_cons_succ, List.set_cons_zero]
                                  generalize hsv : slotAt _ _ us = sv
                                  have h146 : sv 146 = .bool false := by rw [← hsv]; rfl
                                  rw [h146]
                                  have HB9 := Lib.hid (HBq.out.trans (hW.1.mono HBq.out.size))
                                  clear hsv h146 hmem hW CEL
                                  go_wp2
                                  exact ⟨⟨q + 1, by omega, by go_num, HB9⟩, by simp [intOf]; omega⟩
                            · have HBz := Lib.hid nb.below
                              clear nb pl ow no tp row
                              go_wp2
                              exact ⟨⟨kb + 1, by omega, by go_num, HBz⟩, by simp [intOf]; omega⟩
                        · have hq0 : (RR.2.2 != 0) = true := by simp [hz0]
                          have HBz := Lib.hid HNB4.out.below
                          clear hz0
                          go_wp2
                          exact ⟨⟨kb + 1, by omega, by go_num, HBz⟩, by simp [intOf]; omega⟩
              · go_wp2
                exact ⟨⟨ka + 1, by omega, by go_num, HBi⟩, by simp [intOf]; omega⟩
            · go_wp2
              exact ⟨⟨ka + 1, by omega, by go_num, HBi⟩, by simp [intOf]; omega⟩
        · go_wp2_with fail
          refine wakes15_c.mono ?_
          clear y0 y1 y2 y3 y4 y5
          rintro e w90 ⟨rfl, hb90⟩
          have HBf := Lib.hid (HAL.out _ (HBo.out.trans (hb90.mono HBo.out.size)))
          go_wp2
          go_ret
          exact ⟨rfl, HBf.out⟩
      · go_wp2_with fail
        refine wakes15_c.mono ?_
        clear y0 y1 y2 y3 y4 y5
        rintro e w90 ⟨rfl, hb90⟩
        have HBf := Lib.hid (HAL.out _ (HBo.out.trans (hb90.mono HBo.out.size)))
        go_wp2
        go_ret
        exact ⟨rfl, HBf.out⟩
end Go.Proofs.Ytfccghfcilccfaa
