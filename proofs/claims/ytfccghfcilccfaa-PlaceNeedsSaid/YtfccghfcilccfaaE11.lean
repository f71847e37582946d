/- silolaw15.PlaceNeeds answers true. -/
import Derived.Test.YtfccghfcilccfaaE12
import Derived.Deep.CutBlock
namespace Go.Proofs.Ytfccghfcilccfaa
open Go.RowKit Go.Silo

set_option maxRecDepth 100000 in
set_option maxHeartbeats 16000000 in
theorem PlaceNeeds_c {S : Nat → Prop} {w : World} {p : AskP} {As Ax A0 A1 Ag An : Option Addr} {ns cs nx cx n0 c0 n1 c1 ng cg nn cn : Nat} (hB : AskB p) (h : AskR w S p As ns cs Ax nx cx A0 n0 c0 A1 n1 c1 Ag ng cg An nn cn) :
    Calls Try.prog 6 #[.agg #[.slice As ns cs, .slice Ax nx cx, .slice A0 n0 c0, .slice A1 n1 c1, .slice Ag ng cg, .slice An nn cn]] w (RetV (.bool true) w) := by
  have HLS := Lib.hid h.s.len
  have HLX := Lib.hid h.x.len
  have HLG := Lib.hid h.g.len
  have hcs : ns ≤ 9223372036854775807 := Nat.le_trans h.s.le h.s.cap
  have hcx : nx ≤ 9223372036854775807 := Nat.le_trans h.x.le h.x.cap
  have HR := Lib.hid (fun W (hW : Below w.heap.size w W) => h.all hW)
  have hrow := heap_alloc_new w (.cells #[.slice As ns cs, .slice Ax nx cx, .slice A0 n0 c0, .slice A1 n1 c1, .slice Ag ng cg, .slice An nn cn] 76)
  have hz : w.heap.size < (w.alloc (.cells #[.slice As ns cs, .slice Ax nx cx, .slice A0 n0 c0, .slice A1 n1 c1, .slice Ag ng cg, .slice An nn cn] 76)).heap.size := by simp
  have hal : Below w.heap.size w (w.alloc (.cells #[.slice As ns cs, .slice Ax nx cx, .slice A0 n0 c0, .slice A1 n1 c1, .slice Ag ng cg, .slice An nn cn] 76)) := (by repeat' (first | (with_reducible exact Below.refl _ _) | (with_reducible refine Below.alloc ?_ ?_ _) | (with_reducible refine Below.drew ?_) | (with_reducible refine below_drewN ?_ _) | (with_reducible refine Below.setCell ?_ ?_ _) | (refine via ?_ (by with_reducible assumption) ?_) | (refine via ?_ (below_ext _ _) ?_) | go_size))
  have HHV := Lib.hid (Heavy15_c hB (h.all hal)); clear hB h
  go_enter Try.func6, Try.ntmps6
  go_upto_region 1 with (fail)
  generalize (w.alloc (.cells #[.slice As ns cs, .slice Ax nx cx, .slice A0 n0 c0, .slice A1 n1 c1, .slice Ag ng cg, .slice An nn cn] 76)) = W0 at *
  have HAL := Lib.hid (fun W (hW : Below W0.heap.size W0 W) => hal.trans (hW.mono (Nat.le_of_lt hz))); clear hal
  have CELLS : Hid (∀ W, Below W0.heap.size W0 W → W.cell? ⟨w.heap.size, 0, none⟩ = some (.slice As ns cs) ∧ W.cell? ⟨w.heap.size, 1, none⟩ = some (.slice Ax nx cx) ∧ W.cell? ⟨w.heap.size, 2, none⟩ = some (.slice A0 n0 c0) ∧ W.cell? ⟨w.heap.size, 3, none⟩ = some (.slice A1 n1 c1) ∧ W.cell? ⟨w.heap.size, 4, none⟩ = some (.slice Ag ng cg) ∧ W.cell? ⟨w.heap.size, 5, none⟩ = some (.slice An nn cn)) := Lib.hid (fun W hW => by
    have r := (hW.block _ hz).trans hrow
    exact ⟨cell_of_row W _ 0 _ _ _ r, cell_of_row W _ 1 _ _ _ r, cell_of_row W _ 2 _ _ _ r, cell_of_row W _ 3 _ _ _ r, cell_of_row W _ 4 _ _ _ r, cell_of_row W _ 5 _ _ _ r⟩)
  clear hrow
  obtain ⟨y0, y1, y2, y3, y4, y5⟩ := CELLS.out W0 (Below.refl _ _)
  go_wp2_with fail
  refine HHV.out.mono ?_
  clear y0 y1 y2 y3 y4 y5
  rintro e w1 ⟨v, rfl, hb1, hlt0⟩
  have HB1 := Lib.hid hb1; clear hb1
  have HLT0 := Lib.hid hlt0; clear hlt0
  cases v with
  | true =>
    go_wp2
    go_ret
    exact ⟨by trivial, HAL.out _ HB1.out⟩
  | false =>
    have HLT := Lib.hid (HLT0.out rfl); clear HLT0
    go_wp2_with fail
    go_loopw [3] (fun i wr => ∃ k : Nat, k ≤ ns ∧ i = .int .i64 k ∧ Hid (Below W0.heap.size W0 wr)) (fun i _ => ns - (intOf i).toNat)
    case atStart => exact ⟨0, Nat.zero_le _, rfl, HB1⟩
    case round =>
      rename World => wo
      obtain ⟨ka, hka, rfl, HBo⟩ := hrel
      clear HB1
      obtain ⟨y0, y1, y2, y3, y4, y5⟩ := CELLS.out wo HBo.out
      have hzo : w.heap.size < wo.heap.size := Nat.lt_of_lt_of_le hz HBo.out.size
      by_cases hlt : ka < ns
      · by_cases hlt5 : ka < 5
        · go_wp2_with fail
          clear y0 y1 y2 y3 y4 y5
          rw [show decide ((ka : Int) < 5) = true from decide_eq_true (by omega)]
          go_loopw [4] (fun i wr => ∃ k : Nat, k ≤ nx ∧ i = .int .i64 k ∧ Hid (Below W0.heap.size W0 wr)) (fun i _ => nx - (intOf i).toNat)
          case atStart => exact ⟨0, Nat.zero_le _, rfl, HBo⟩
          case round =>
            rename World => wi
            obtain ⟨kb, hkb, rfl, HBi⟩ := hrel
            obtain ⟨y0, y1, y2, y3, y4, y5⟩ := CELLS.out wi HBi.out
            have hzi : w.heap.size < wi.heap.size := Nat.lt_of_lt_of_le hz HBi.out.size
            by_cases hltb : kb < nx
            · by_cases hltb5 : kb < 5
              · obtain ⟨bs, os, rfl, _, hbls, j1, j2, j3, q0, q1, q2, _⟩ := (HR.out wi (HAL.out _ HBi.out)).s.shape_at hlt
                obtain ⟨bx, ox, Ap, np, cp, rfl, _, hblx, i1, i2, i3, hpl, z0, z1, z2, z3, _⟩ := (HR.out wi (HAL.out _ HBi.out)).x.stripe_at hltb
                have hpl3 : (p.x.getD kb default).place.length ≤ 3000 := HLT.out.2.2.1 _ (getD_mem (d := default) (by have := HLX.out; omega))
                generalize p.s.getD ka default = s at *
                generalize p.x.getD kb default = x at *
                have HSI := Lib.hid (show I64 s.K ∧ I64 s.M ∧ I64 s.size from ⟨j1, j2, j3⟩); clear j1 j2 j3
                have HXI := Lib.hid (show I64 x.id ∧ I64 x.len ∧ I64 x.gen from ⟨i1, i2, i3⟩); clear i1 i2 i3
                have HPL := Lib.hid hpl.lt_block; clear hpl
                have HP3 := Lib.hid hpl3; clear hpl3
                have CEL : Hid (∀ us w6, WdT wi wi.heap.size (R9 wi) (fun _ => True) 12 13 (st91 (.int .i64 s.K) (.int .i64 s.M) (.int .i64 s.size)) (st92 (.int .i64 x.id) (.int .i64 x.len) (.int .i64 x.gen) (.slice Ap np cp)) us w6 → (w6.cell? ⟨w.heap.size, 0, none⟩ = some (.slice (some ⟨bs, os, none⟩) ns cs) ∧ w6.cell? ⟨w.heap.size, 1, none⟩ = some (.slice (some ⟨bx, ox, none⟩) nx cx)) ∧
                    (w6.cell? ⟨bs, os + ka * 3, none⟩ = some (.int .i64 s.K) ∧ w6.cell? ⟨bs, os + ka * 3 + 1, none⟩ = some (.int .i64 s.M) ∧ w6.cell? ⟨bs, os + ka * 3 + 2, none⟩ = some (.int .i64 s.size)) ∧
                    (w6.cell? ⟨bx, ox + kb * 4, none⟩ = some (.int .i64 x.id) ∧ w6.cell? ⟨bx, ox + kb * 4 + 1, none⟩ = some (.int .i64 x.len) ∧ w6.cell? ⟨bx, ox + kb * 4 + 2, none⟩ = some (.int .i64 x.gen) ∧ w6.cell? ⟨bx, ox + kb * 4 + 3, none⟩ = some (.slice Ap np cp))) := Lib.hid (fun us w6 hW => by
                  have hb := hW.below (Nat.le_refl _)
                  exact ⟨⟨(hb.cell (p := ⟨w.heap.size, 0, none⟩) hzi).trans y0, (hb.cell (p := ⟨w.heap.size, 1, none⟩) hzi).trans y1⟩, ⟨(hb.cell (p := ⟨bs, os + ka * 3, none⟩) hbls).trans q0, (hb.cell (p := ⟨bs, os + ka * 3 + 1, none⟩) hbls).trans q1, (hb.cell (p := ⟨bs, os + ka * 3 + 2, none⟩) hbls).trans q2⟩,
                    ⟨(hb.cell (p := ⟨bx, ox + kb * 4, none⟩) hblx).trans z0, (hb.cell (p := ⟨bx, ox + kb * 4 + 1, none⟩) hblx).trans z1, (hb.cell (p := ⟨bx, ox + kb * 4 + 2, none⟩) hblx).trans z2, (hb.cell (p := ⟨bx, ox + kb * 4 + 3, none⟩) hblx).trans z3⟩⟩)
                go_wp2_with fail
                clear y0 y1 y2 y3 y4 y5 q0 q1 q2 z0 z1 z2 z3
                refine region_free (by kernel_rfl) (by kernel_rfl) 178 rfl [43, 44, 45, 46, 47, 48, 49, 50, 51, 52, 5, 6] [10, 11, 12, 13] [(5, 10), (6, 11)]
                  [(43, [], fun _ => .pointer (some ⟨w.heap.size, 0, none⟩)), (44, [], fun _ => .slice (some ⟨bs, os, none⟩) ns cs), (45, [], fun _ => .int .i64 (ka : Int)), (46, [], fun _ => .pointer (some ⟨bs, os + ka * 3, none⟩)), (47, [], fun _ => .agg #[.int .i64 s.K, .int .i64 s.M, .int .i64 s.size]),
                    (48, [], fun _ => .pointer (some ⟨w.heap.size, 1, none⟩)), (49, [], fun _ => .slice (some ⟨bx, ox, none⟩) nx cx), (50, [], fun _ => .int .i64 (kb : Int)), (51, [], fun _ => .pointer (some ⟨bx, ox + kb * 4, none⟩)), (52, [], fun _ => .agg #[.int .i64 x.id, .int .i64 x.len, .int .i64 x.gen, .slice Ap np cp])]
                  [[], [], [], [], [], [], [], [], [], [], [12], [12], [], []] [[], [], [], [], [], [], [], [], [], [], [], [], [10, 11], [10, 11, 12]] [[], [43], [], [44, 45], [46], [], [48], [], [49, 50], [51], [], [], [5, 47], [6, 52]]
                  (WdT wi wi.heap.size (R9 wi) (fun _ => True) 12 13 (st91 (.int .i64 s.K) (.int .i64 s.M) (.int .i64 s.size)) (st92 (.int .i64 x.id) (.int .i64 x.len) (.int .i64 x.gen) (.slice Ap np cp))) (by kernel_rfl) .init ⟨?_, ?_, ?_, ?_, ?_, ?_, ?_, ?_, ?_, ?_, ?_, ?_, ?_, ?_, trivial⟩ ?_
                -- FAST14 cdot
                · (refine OpH.rd rfl rfl (fun ρ us w6 ho ht hc hl hsrc hW => ?_); have e1 := (ho 1 rfl).trans (show _ = (.pointer (some ⟨w.heap.size, 0, none⟩) : Value) from rfl); clear ht ho; simp only [execOp, e1]; go_simp; try rfl)
                · (refine OpH.rd rfl rfl (fun ρ us w6 ho ht hc hl hsrc hW => ?_); have e43 := (ht 43 (by decide)).trans (show _ = (.pointer (some ⟨w.heap.size, 0, none⟩) : Value) from rfl); obtain ⟨⟨y0, y1⟩, _⟩ := CEL.out us w6 hW; clear ht ho; simp only [execOp, e43]; go_simp; try rfl)
                · (refine OpH.rd rfl rfl (fun ρ us w6 ho ht hc hl hsrc hW => ?_); have e3 := (ho 3 rfl).trans (show _ = (.int .i64 (ka : Int) : Value) from rfl); clear ht ho; simp only [execOp, e3]; go_simp; try rfl)
                · (refine OpH.rd rfl rfl (fun ρ us w6 ho ht hc hl hsrc hW => ?_); have e44 := (ht 44 (by decide)).trans (show _ = (.slice (some ⟨bs, os, none⟩) ns cs : Value) from rfl); have e45 := (ht 45 (by decide)).trans (show _ = (.int .i64 (ka : Int) : Value) from rfl); clear ht ho; simp only [execOp, e44, e45]; go_simp; try rfl)
                · (refine OpH.rd rfl rfl (fun ρ us w6 ho ht hc hl hsrc hW => ?_); have e46 := (ht 46 (by decide)).trans (show _ = (.pointer (some ⟨bs, os + ka * 3, none⟩) : Value) from rfl); obtain ⟨_, ⟨q0, q1, q2⟩, _⟩ := CEL.out us w6 hW; clear ht ho; simp only [execOp, e46]; go_simp; try rfl)
                · (refine OpH.rd rfl rfl (fun ρ us w6 ho ht hc hl hsrc hW => ?_); have e1 := (ho 1 rfl).trans (show _ = (.pointer (some ⟨w.heap.size, 0, none⟩) : Value) from rfl); clear ht ho; simp only [execOp, e1]; go_simp; try rfl)
                · (refine OpH.rd rfl rfl (fun ρ us w6 ho ht hc hl hsrc hW => ?_); have e48 := (ht 48 (by decide)).trans (show _ = (.pointer (some ⟨w.heap.size, 1, none⟩) : Value) from rfl); obtain ⟨⟨y0, y1⟩, _⟩ := CEL.out us w6 hW; clear ht ho; simp only [execOp, e48]; go_simp; try rfl)
                · (refine OpH.rd rfl rfl (fun ρ us w6 ho ht hc hl hsrc hW => ?_); have e4 := (ho 4 rfl).trans (show _ = (.int .i64 (kb : Int) : Value) from rfl); clear ht ho; simp only [execOp, e4]; go_simp; try rfl)
                · (refine OpH.rd rfl rfl (fun ρ us w6 ho ht hc hl hsrc hW => ?_); have e49 := (ht 49 (by decide)).trans (show _ = (.slice (some ⟨bx, ox, none⟩) nx cx : Value) from rfl); have e50 := (ht 50 (by decide)).trans (show _ = (.int .i64 (kb : Int) : Value) from rfl); clear ht ho; simp only [execOp, e49, e50]; go_simp; try rfl)
                · (refine OpH.rd rfl rfl (fun ρ us w6 ho ht hc hl hsrc hW => ?_); have e51 := (ht 51 (by decide)).trans (show _ = (.pointer (some ⟨bx, ox + kb * 4, none⟩) : Value) from rfl); obtain ⟨_, _, z0, z1, z2, z3⟩ := CEL.out us w6 hW; clear ht ho; simp only [execOp, e51]; go_simp; try rfl)
                · refine OpH.wr rfl (fun Z us w6 ho ht hni hlim hreq hW K hK => ?_)
                  have hdone := hW.snoc (i := 10) (x := .pointer (some ⟨w6.heap.size, 0, none⟩)) (by decide) (by decide) (hlim 12 (by decide)) ((Below.refl _ _).alloc (Nat.le_refl _) (.cells #[.int .i64 0, .int .i64 0, .int .i64 0] 23)) (fun j v h => R9.all ((Below.refl _ _).alloc (Nat.le_refl _) _) j v h) ⟨fun _ => ⟨_, rfl, (hW.below (Nat.le_refl _)).size, heap_alloc_new _ _⟩, fun h => absurd h (by decide)⟩
                  have HDN := Lib.hid hdone; clear hdone hW hni hlim hreq ho ht
                  rw [if_pos (by simp [Region.wanted])]
                  unfold Oper.wp
                  generalize Z.eval = ρ at *
                  simp only [execOp]
                  go_simp
                  exact hK _ _ HDN.out
                · refine OpH.wr rfl (fun Z us w6 ho ht hni hlim hreq hW K hK => ?_)
                  have hdone := hW.snoc (i := 11) (x := .pointer (some ⟨w6.heap.size, 0, none⟩)) (by decide) (by decide) (hlim 12 (by decide)) ((Below.refl _ _).alloc (Nat.le_refl _) (.cells #[.int .i64 0, .int .i64 0, .int .i64 0, .slice none 0 0] 79)) (fun j v h => R9.all ((Below.refl _ _).alloc (Nat.le_refl _) _) j v h) ⟨fun h => absurd h (by decide), fun _ => ⟨_, rfl, (hW.below (Nat.le_refl _)).size, heap_alloc_new _ _⟩⟩
                  have HDN := Lib.hid hdone; clear hdone hW hni hlim hreq ho ht
                  rw [if_pos (by simp [Region.wanted])]
                  unfold Oper.wp
                  generalize Z.eval = ρ at *
                  simp only [execOp]
                  go_simp
                  exact hK _ _ HDN.out
                · refine OpH.wr rfl (fun Z us w6 ho ht hni hlim hreq hW K hK => ?_)
                  obtain ⟨g, ev, hg, hr⟩ := (hW.at_ hni (hreq 10 (by decide))).1 rfl
                  have e5 := ((ht 5 (by decide)).trans (show _ = (us.lookup 10).getD undef from rfl)).trans ev
                  have e47 := (ht 47 (by decide)).trans (show _ = (.agg #[.int .i64 s.K, .int .i64 s.M, .int .i64 s.size] : Value) from rfl)
                  have hst : st91 (.int .i64 s.K) (.int .i64 s.M) (.int .i64 s.size) us w6 = ((w6.setCell ⟨g, 0, none⟩ (.int .i64 s.K)).setCell ⟨g, 1, none⟩ (.int .i64 s.M)).setCell ⟨g, 2, none⟩ (.int .i64 s.size) := by unfold st91; rw [ev]; rfl
                  have hdone := hW.store1 hni (x := undef) trivial (by rw [hst]; exact (((hW.below (Nat.le_refl _)).setCell hg _).setCell hg _).setCell hg _)
                  rw [hst] at hdone
                  have f0 := (cell_of_row w6 g 0 _ _ _ hr).trans (show _ = some (Value.int .i64 0) from rfl)
                  have f1 := (cell_of_row w6 g 1 _ _ _ hr).trans (show _ = some (Value.int .i64 0) from rfl)
                  have f2 := (cell_of_row w6 g 2 _ _ _ hr).trans (show _ = some (Value.int .i64 0) from rfl)
                  have f3 := frozen_of_row w6 g 0 _ _ hr
                  have f4 := frozen_of_row w6 g 1 _ _ hr
                  have f5 := frozen_of_row w6 g 2 _ _ hr
                  have HDN := Lib.hid hdone; clear hdone hW hni hlim hreq ho ht hst hr ev
                  rw [if_pos (by simp [Region.wanted])]
                  unfold Oper.wp
                  generalize Z.eval = ρ at *
                  simp only [execOp, e5, e47]
                  go_simp
                  exact hK undef _ HDN.out
                · refine OpH.wr rfl (fun Z us w6 ho ht hni hlim hreq hW K hK => ?_)
                  have q10 := hreq 10 (by decide)
                  have q11 := hreq 11 (by decide)
                  obtain ⟨us0, W6, x0, rfl, rfl, hb, hR, hn1, hn2, _, hb1⟩ := hW.mid (hreq 12 (by decide)) hni
                  obtain ⟨v10, l10, m10⟩ := lookup_mem (before_mid q10 (by decide))
                  obtain ⟨v11, l11, m11⟩ := lookup_mem (before_mid q11 (by decide))
                  obtain ⟨g5, rfl, hg5, r5⟩ := (hR 10 v10 m10).1 rfl
                  obtain ⟨g6, rfl, hg6, r6⟩ := (hR 11 v11 m11).2 rfl
                  have hne : g6 ≠ g5 := fun e => by rw [e, r5] at r6; cases r6
                  have e6 := ((ht 6 (by decide)).trans (show _ = ((us0 ++ [(12, x0)]).lookup 11).getD undef from rfl)).trans (show _ = (.pointer (some ⟨g6, 0, none⟩) : Value) by rw [lookup_mid (by decide), l11]; rfl)
                  have e52 := (ht 52 (by decide)).trans (show _ = (.agg #[.int .i64 x.id, .int .i64 x.len, .int .i64 x.gen, .slice Ap np cp] : Value) from rfl)
                  have r6' : (st91 (.int .i64 s.K) (.int .i64 s.M) (.int .i64 s.size) us0 W6).heap[g6]? = some (.cells #[.int .i64 0, .int .i64 0, .int .i64 0, .slice none 0 0] 79 (0, 0)) := by
                    unfold st91
                    rw [l10]
                    show ((((W6.setCell ⟨g5, 0, none⟩ _).setCell ⟨g5, 1, none⟩ _).setCell ⟨g5, 2, none⟩ _)).heap[g6]? = _
                    rw [Below.heap_setCell _ _ _ _ hne, Below.heap_setCell _ _ _ _ hne, Below.heap_setCell _ _ _ _ hne]; exact r6
                  have hst : ∀ W, st92 (.int .i64 x.id) (.int .i64 x.len) (.int .i64 x.gen) (.slice Ap np cp) us0 W = (((W.setCell ⟨g6, 0, none⟩ (.int .i64 x.id)).setCell ⟨g6, 1, none⟩ (.int .i64 x.len)).setCell ⟨g6, 2, none⟩ (.int .i64 x.gen)).setCell ⟨g6, 3, none⟩ (.slice Ap np cp) := fun W => by unfold st92; rw [l11]; rfl
                  have hdone := WdT.two (V := wi) (m := wi.heap.size) (R := R9 wi) (Pre := fun _ => True) (st1 := st91 (.int .i64 s.K) (.int .i64 s.M) (.int .i64 s.size)) (st2 := st92 (.int .i64 x.id) (.int .i64 x.len) (.int .i64 x.gen) (.slice Ap np cp)) (x := x0) (x' := undef) hb hR hn1 hn2 trivial (by rw [hst]; exact (((hb1.setCell hg6 _).setCell hg6 _).setCell hg6 _).setCell hg6 _)
                  rw [hst] at hdone
                  have HDN := Lib.hid hdone; clear hdone hst hb hR hn1 hn2 hb1 hW hni hlim hreq ho ht q10 q11 l10 l11 m10 m11 r5 r6
                  generalize st91 (.int .i64 s.K) (.int .i64 s.M) (.int .i64 s.size) us0 W6 = W7 at *
                  have f0 := (cell_of_row W7 g6 0 _ _ _ r6').trans (show _ = some (Value.int .i64 0) from rfl)
                  have f1 := (cell_of_row W7 g6 1 _ _ _ r6').trans (show _ = some (Value.int .i64 0) from rfl)
                  have f2 := (cell_of_row W7 g6 2 _ _ _ r6').trans (show _ = some (Value.int .i64 0) from rfl)
                  have f3 := (cell_of_row W7 g6 3 _ _ _ r6').trans (show _ = some (Value.slice none 0 0) from rfl)
                  have f4 := frozen_of_row W7 g6 0 _ _ r6'
                  have f5 := frozen_of_row W7 g6 1 _ _ r6'
                  have f6 := frozen_of_row W7 g6 2 _ _ r6'
                  have f7 := frozen_of_row W7 g6 3 _ _ r6'
                  clear r6'
                  rw [if_pos (by simp [Region.wanted])]
                  unfold Oper.wp
                  generalize Z.eval = ρ at *
                  simp only [execOp, e6, e52]
                  go_simp
                  exact hK undef _ HDN.out
                -- TSAF
                · intro us w9 hmem hW
                  have hB9 := hW.below (Nat.le_refl _)
                  obtain ⟨us0, W6, x0, x1, rfl, rfl, hb, hR, hn1, hn2, _, hb2⟩ := hW.last (hmem 13 (by decide)) (by decide)
                  obtain ⟨v10, l10, m10⟩ := lookup_mem (before_last (hmem 10 (by decide)) (by decide) (by decide))
                  obtain ⟨v11, l11, m11⟩ := lookup_mem (before_last (hmem 11 (by decide)) (by decide) (by decide))
                  obtain ⟨g5, rfl, hg5, r5⟩ := (hR 10 v10 m10).1 rfl
                  obtain ⟨g6, rfl, hg6, r6⟩ := (hR 11 v11 m11).2 rfl
                  have hne : g6 ≠ g5 := fun e => by rw [e, r5] at r6; cases r6
                  have hst1 : st91 (.int .i64 s.K) (.int .i64 s.M) (.int .i64 s.size) us0 W6 = ((W6.setCell ⟨g5, 0, none⟩ (.int .i64 s.K)).setCell ⟨g5, 1, none⟩ (.int .i64 s.M)).setCell ⟨g5, 2, none⟩ (.int .i64 s.size) := by unfold st91; rw [l10]; rfl
                  have hst2 : ∀ W, st92 (.int .i64 x.id) (.int .i64 x.len) (.int .i64 x.gen) (.slice Ap np cp) us0 W = (((W.setCell ⟨g6, 0, none⟩ (.int .i64 x.id)).setCell ⟨g6, 1, none⟩ (.int .i64 x.len)).setCell ⟨g6, 2, none⟩ (.int .i64 x.gen)).setCell ⟨g6, 3, none⟩ (.slice Ap np cp) := fun W => by unfold st92; rw [l11]; rfl
                  rw [hst2, hst1] at hB9 ⊢
                  have R5 := row_set3 (u := .int .i64 s.K) (v := .int .i64 s.M) (z := .int .i64 s.size) r5
                  have R6 : (((W6.setCell ⟨g5, 0, none⟩ (.int .i64 s.K)).setCell ⟨g5, 1, none⟩ (.int .i64 s.M)).setCell ⟨g5, 2, none⟩ (.int .i64 s.size)).heap[g6]? = _ := (Below.heap_setCell _ _ _ _ hne).trans ((Below.heap_setCell _ _ _ _ hne).trans ((Below.heap_setCell _ _ _ _ hne).trans r6))
                  have RR6 := row_set4 (u := .int .i64 x.id) (v := .int .i64 x.len) (z := .int .i64 x.gen) (y := .slice Ap np cp) R6
                  have hne' := Ne.symm hne
                  have RR5 := (Below.heap_setCell ((((((W6.setCell ⟨g5, 0, none⟩ (.int .i64 s.K)).setCell ⟨g5, 1, none⟩ (.int .i64 s.M)).setCell ⟨g5, 2, none⟩ (.int .i64 s.size)).setCell ⟨g6, 0, none⟩ (.int .i64 x.id)).setCell ⟨g6, 1, none⟩ (.int .i64 x.len)).setCell ⟨g6, 2, none⟩ (.int .i64 x.gen)) ⟨g6, 3, none⟩ (.slice Ap np cp) g5 hne').trans ((Below.heap_setCell _ _ _ _ hne').trans ((Below.heap_setCell _ _ _ _ hne').trans ((Below.heap_setCell _ _ _ _ hne').trans R5)))
                  simp only [putAll, List.map_cons, List.map_nil, List.foldl_cons, List.foldl_nil, Act.put, List.setIfInBounds_toArray, List.set_cons_succ, List.set_cons_zero]
                  generalize hsv : slotAt _ _ _ = sv
                  have hs5 : sv 5 = .pointer (some ⟨g5, 0, none⟩) := by rw [← hsv]; show ((us0 ++ [(12, x0)] ++ [(13, x1)]).lookup 10).getD undef = _; rw [lookup_last (by decide) (by decide), l10]; rfl
                  have hs6 : sv 6 = .pointer (some ⟨g6, 0, none⟩) := by rw [← hsv]; show ((us0 ++ [(12, x0)] ++ [(13, x1)]).lookup 11).getD undef = _; rw [lookup_last (by decide) (by decide), l11]; rfl
                  rw [hs5, hs6]
                  clear hsv hs5 hs6 hst1 hst2 hb hR hn1 hn2 hb2 hW hmem l10 l11 m10 m11 r5 r6 R5 R6 CEL
                  generalize ((((((W6.setCell ⟨g5, 0, none⟩ (.int .i64 s.K)).setCell ⟨g5, 1, none⟩ (.int .i64 s.M)).setCell ⟨g5, 2, none⟩ (.int .i64 s.size)).setCell ⟨g6, 0, none⟩ (.int .i64 x.id)).setCell ⟨g6, 1, none⟩ (.int .i64 x.len)).setCell ⟨g6, 2, none⟩ (.int .i64 x.gen)).setCell ⟨g6, 3, none⟩ (.slice Ap np cp) = w9 at *
                  have HNB := Lib.hid (show NB W0 s x Ap np cp g5 g6 w9 from ⟨RR5, RR6, HBi.out.trans (hB9.mono HBi.out.size)⟩)
                  have HPL9 := Lib.hid (HPL.out.all hB9); clear HPL
                  have s9 := hB9.size
                  clear RR5 RR6 hB9 hne hne' hg5 hg6
                  obtain ⟨⟨k0, k1, k2⟩, ⟨z0, z1, z2, z3⟩⟩ := HNB.out.cells
                  have hzg5 := HNB.out.h5
                  have hzg6 := HNB.out.h6
                  go_wp2_with fail
                  refine (refStripe_c (s := s) (x := x) HPL9.out).mono ?_
                  clear k0 k1 k2 z0 z1 z2 z3
                  rintro e w10 ⟨rfl, hb10⟩
                  have HNB2 := Lib.hid (HNB.out.all hb10); clear HNB
                  have HPL2 := Lib.hid (HPL9.out.all hb10); clear HPL9
                  have s10 : wi.heap.size ≤ w10.heap.size := Nat.le_trans s9 hb10.size
                  clear hb10 s9
                  obtain ⟨⟨k0, k1, k2⟩, ⟨z0, z1, z2, z3⟩⟩ := HNB2.out.cells
                  have hck := placeCheck_c (w := w10) (s := s) (x := x) HSI.out HXI.out HPL2.out
                  generalize hr : stripeOk s x = r at *
                  have HMAY := Lib.hid hr; clear hr
                  have HCK := Lib.hid hck; clear hck
                  go_wp2_with fail
                  refine HCK.out.mono ?_
                  clear HCK k0 k1 k2 z0 z1 z2 z3
                  rintro e w11 ⟨rfl, hb11⟩
                  have HNB3 := Lib.hid (HNB2.out.all hb11); clear HNB2
                  have HPL3 := Lib.hid (HPL2.out.all hb11); clear HPL2
                  have s11 : wi.heap.size ≤ w11.heap.size := Nat.le_trans s10 hb11.size
                  clear hb11 s10
                  go_wp2_with fail
                  refine num15_c.mono ?_
                  rintro e w12 ⟨rfl, hb12⟩
                  have HNB4 := Lib.hid (HNB3.out.all hb12); clear HNB3
                  have HPL4 := Lib.hid (HPL3.out.all hb12); clear HPL3
                  have s12 : wi.heap.size ≤ w12.heap.size := Nat.le_trans s11 hb12.size
                  have h5l : g5 < w12.heap.size := HNB4.out.h5
                  have h6l : g6 < w12.heap.size := HNB4.out.h6
                  clear hb12 s11 hzg5 hzg6
                  have hok : ((okErr r == 0) == r) = true := by cases r <;> rfl
                  obtain ⟨y0, y1, y2, y3, y4, y5⟩ := CELLS.out w12 HNB4.out.below
                  go_upto_region 14 with (fail)
                  clear y0 y1 y2 y3 y4 y5 hok
                  have hl0 : Own 30 (slE false 4 boolE) (w12.alloc (.cells #[.slice Ag ng cg] 30)) w12.heap.size (fun b => b < w12.heap.size) (some ⟨w12.heap.size, 0, none⟩) 1 1 ([p.g] : List (List Bool)) :=
                    Own.lit [.slice Ag ng cg] [p.g] 1 (Nat.le_refl _) (by omega) rfl rfl (fun k y hy => by
                      match k, hy with
                      | 0, hy => injection hy with hy; subst hy; exact ⟨_, _, _, rfl, ((HR.out w12 (HAL.out _ HNB4.out.below)).g.lt_block).mono (fun b hb _ => hb.2)⟩)
                  have HL0 := Lib.hid hl0; clear hl0
                  have HNB5 := Lib.hid (HNB4.out.all ((Below.refl _ _).alloc (Nat.le_refl _) (.cells #[.slice Ag ng cg] 30)))
                  have HPL5 := Lib.hid (HPL4.out.all ((Below.refl _ _).alloc (Nat.le_refl _) (.cells #[.slice Ag ng cg] 30))); clear HPL4
                  have hz12 : w12.heap.size < (w12.alloc (.cells #[.slice Ag ng cg] 30)).heap.size := by simp
                  have hz0 := HNB4.out.below.size
                  clear HNB4
                  generalize (w12.alloc (.cells #[.slice Ag ng cg] 30)) = w13 at *
                  obtain ⟨⟨k0, k1, k2⟩, _⟩ := HNB5.out.cells
                  go_wp2_with fail
                  refine (refShape_c (s := s)).mono ?_
                  clear k0 k1 k2
                  rintro e w14 ⟨rfl, hb14⟩
                  have HNB6 := Lib.hid (HNB5.out.all hb14); clear HNB5
                  have HPL6 := Lib.hid (HPL5.out.all hb14); clear HPL5
                  have HL1 := Lib.hid (HL0.out.all hb14); clear HL0
                  have hz14 := hb14.size
                  clear hb14
                  generalize hsh : shapeOk s = sh at *
                  have HSH := Lib.hid hsh; clear hsh
                  go_upto_if 67 with (fail)
                  go_cut [8] from 32 to 176 (fun s8 V => ∃ AL nl cl, ∃ L : List (List Bool), s8 = .slice AL nl cl ∧ NB W0 s x Ap np cp g5 g6 V ∧ Sl false 104 slotE V (fun b => b < V.heap.size) Ap np cp x.place ∧ Sl false 30 (slE false 4 boolE) V (fun b => b < V.heap.size) AL nl cl L ∧ (∀ l ∈ L, l.length ≤ 100000))
                  case first =>
                    -- FAST
                    cases sh with
                    | false =>
                      go_wp2
                      go_meet
                      case rel => exact ⟨_, _, _, [p.g], rfl, HNB6.out, HPL6.out.lt_block.mono (fun b hb _ => hb.2), ((HL1.out.sl (tg := false)).lt_block).mono (fun b hb _ => hb.2), fun l hl => by
                        obtain rfl : l = p.g := by simpa using hl
                        have := HLT.out.1.2.2.1; omega⟩
                    | true =>
                      obtain ⟨i1, hi1, v0, v1, v2⟩ := info_parts Try.info_Bools
                      have hsb : 1 ≤ s.K ∧ s.K ≤ 8 ∧ 0 ≤ s.M ∧ s.M ≤ 6 := by
                        have h := HSH.out
                        unfold shapeOk at h
                        have h2 := of_decide_eq_true h
                        omega
                      obtain ⟨n, hn⟩ := Int.eq_ofNat_of_zero_le (show 0 ≤ s.K + s.M by omega)
                      have hgd := good_c (w := w14) (p := p) (s := s) (n := n) hn.symm (by omega) ⟨by omega, by omega⟩ (by have := HLT.out.1.2.2.1; have := HLG.out; omega) (HR.out w14 (HAL.out _ HNB6.out.below))
                      have hn14 : n ≤ 100000 := by omega
                      have HGD := Lib.hid hgd; clear hgd hn hsb
                      obtain ⟨⟨k0, k1, k2⟩, _⟩ := HNB6.out.cells
                      obtain ⟨y0, y1, y2, y3, y4, y5⟩ := CELLS.out w14 HNB6.out.below
                      go_wp2_with fail
                      refine HGD.out.mono ?_
                      clear HGD k0 k1 k2 y0 y1 y2 y3 y4 y5
                      rintro e w15 ⟨Ad, cd, rfl, hown, hb15⟩
                      have s15 := hb15.size
                      have hel := (hown.sl (tg := false)).mono (S' := fun b => w14.heap.size ≤ b) (fun b hb _ => hb.elim id id)
                      have hlen := goodL_len p.g n
                      have HEL := Lib.hid hel; clear hel hown
                      have HLEN := Lib.hid hlen; clear hlen
                      have HNB7 := Lib.hid ((HNB6.out.all hb15).all ((Below.refl _ _).alloc (Nat.le_refl _) (.cells #[.slice Ad (goodL p.g n).length cd] 30)))
                      have HPL7 := Lib.hid ((HPL6.out.all hb15).all ((Below.refl _ _).alloc (Nat.le_refl _) (.cells #[.slice Ad (goodL p.g n).length cd] 30)))
                      have HL2 := Lib.hid (((HL1.out.mono (S' := fun _ => True) (fun _ _ _ => trivial)).all hb15).all ((Below.refl _ _).alloc (Nat.le_refl _) (.cells #[.slice Ad (goodL p.g n).length cd] 30)))
                      have hR : (slE false 4 boolE).R (w15.alloc (.cells #[.slice Ad (goodL p.g n).length cd] 30)) (fun b => True ∧ some b ≠ ablk (some ⟨w12.heap.size, 0, none⟩)) [.slice Ad (goodL p.g n).length cd] (goodL p.g n) :=
                        ⟨_, _, _, rfl, (HEL.out.all ((Below.refl _ _).alloc (Nat.le_refl _) _)).mono (fun b hb _ => ⟨trivial, fun e => by injection e with e; have : w14.heap.size ≤ b := hb; have : b = w12.heap.size := e; omega⟩)⟩
                      have HRR := Lib.hid hR; clear hR HEL hb15
                      go_wp2_with (at_builtin; refine wpList_append1 rfl _ _ 82 rfl i1 (.slice none 0 0) 24 Try.underlying82 hi1 v0 v1 v2 rfl (Nat.succ_pos 0) rfl HL2.out w15.heap.size 30 1 _ (goodL p.g n) rfl (heap_alloc_new _ _) HRR.out (by omega) (by omega) (by simp; omega) ?_)
                      intro A9 c9 w16 hown9 hg9 _
                      have HNB8 := Lib.hid (HNB7.out.grown (m := w12.heap.size) hg9 (fun r hr => by injection hr with hr; have : w12.heap.size = r := hr; omega) h5l h6l hz0)
                      have HPL8 := Lib.hid (HPL7.out.frame (w' := w16) (Agree.grown hg9 (fun b hb e => by injection e with e; have := hb.2; have : b = w12.heap.size := e; omega)) hg9.size)
                      have HL3 := Lib.hid (hown9.sl (tg := false)); clear hown9 hg9
                      go_wp2
                      go_meet
                      case rel => exact ⟨_, _, _, _, rfl, HNB8.out, HPL8.out.lt_block.mono (fun b hb _ => hb.2), (HL3.out.lt_block).mono (fun b hb _ => hb.2), fun l hl => by
                        have hl2 : l = p.g ∨ l = goodL p.g n := by simpa using hl
                        rcases hl2 with rfl | rfl
                        · have := HLT.out.1.2.2.1; omega
                        · rw [HLEN.out]; exact hn14⟩
                    -- TSAF
                  case rest =>
                    rename World => wc
                    obtain ⟨AL, nl, cl, L, rfl, hnb, hplc, hls, hll⟩ := hcut
                    have HNC := Lib.hid hnb; clear hnb
                    have HPC := Lib.hid hplc; clear hplc
                    have HLC := Lib.hid hls; clear hls
                    have HLL := Lib.hid hll; clear hll
                    have HLN := Lib.hid HLC.out.len
                    have hcl : nl ≤ 9223372036854775807 := Nat.le_trans HLC.out.le HLC.out.cap
                    clear HNB6 HPL6 HL1 hz14 hz12 hz0
                    go_wp2_with fail
                    go_loopw [9] (fun i wr => ∃ k : Nat, k ≤ nl ∧ i = .int .i64 k ∧ Hid (Below wc.heap.size wc wr)) (fun i _ => nl - (intOf i).toNat)
                    case atStart => exact ⟨0, Nat.zero_le _, rfl, Lib.hid (Below.refl _ _)⟩
                    case round =>
                      rename World => wl
                      obtain ⟨kc, hkc, rfl, HBl⟩ := hrel
                      by_cases hltc : kc < nl
                      · obtain ⟨bl, ol, Al, ql, cq', rfl, _, hbll, hgl, hlc, _⟩ := (HLC.out.all HBl.out).sl_at hltc
                        have hlle : (L.getD kc []).length ≤ 100000 := HLL.out _ (getD_mem (d := []) (by have := HLN.out; omega))
                        have hlk : (L.getD kc []).length = ql := hgl.len
                        generalize L.getD kc [] = lk at *
                        have HNL := Lib.hid (HNC.out.all HBl.out)
                        have HPLl := Lib.hid (HPC.out.all HBl.out)
                        have HLLl := Lib.hid (HLC.out.all HBl.out)
                        have HGL := Lib.hid hgl; clear hgl
                        have HLK := Lib.hid (show lk.length = ql ∧ ql ≤ 100000 from ⟨hlk, by omega⟩); clear hlk hlle
                        obtain ⟨⟨k0, k1, k2⟩, ⟨z0, z1, z2, z3⟩⟩ := HNL.out.cells
                        obtain ⟨y0, y1, y2, y3, y4, y5⟩ := CELLS.out wl HNL.out.below
                        have hzl : w.heap.size < wl.heap.size := Nat.lt_of_lt_of_le hz HNL.out.below.size
                        have h5l : g5 < wl.heap.size := HNL.out.h5
                        have h6l : g6 < wl.heap.size := HNL.out.h6
                        have CEL : Hid (∀ us w6, WdT wl wl.heap.size (R19 x p.y lk wl) (fun us => 9 ∈ us.map Prod.fst) 12 13 (stB 10 1) (stB 11 4) us w6 → (w6.cell? ⟨w.heap.size, 2, none⟩ = some (.slice A0 n0 c0) ∧ w6.cell? ⟨w.heap.size, 3, none⟩ = some (.slice A1 n1 c1)) ∧
                            (w6.cell? ⟨g6, 0, none⟩ = some (.int .i64 x.id) ∧ w6.cell? ⟨g6, 1, none⟩ = some (.int .i64 x.len) ∧ w6.cell? ⟨g6, 2, none⟩ = some (.int .i64 x.gen) ∧ w6.cell? ⟨g6, 3, none⟩ = some (.slice Ap np cp)) ∧
                            w6.cell? ⟨bl, ol + kc, none⟩ = some (.slice Al ql cq')) := Lib.hid (fun us w6 hW => by
                          have hb := hW.below (Nat.le_refl _)
                          exact ⟨⟨(hb.cell (p := ⟨w.heap.size, 2, none⟩) hzl).trans y2, (hb.cell (p := ⟨w.heap.size, 3, none⟩) hzl).trans y3⟩, ⟨(hb.cell (p := ⟨g6, 0, none⟩) h6l).trans z0, (hb.cell (p := ⟨g6, 1, none⟩) h6l).trans z1, (hb.cell (p := ⟨g6, 2, none⟩) h6l).trans z2, (hb.cell (p := ⟨g6, 3, none⟩) h6l).trans z3⟩, (hb.cell (p := ⟨bl, ol + kc, none⟩) hbll).trans hlc⟩)
                        go_wp2_with fail
                        clear y0 y1 y2 y3 y4 y5 k0 k1 k2 z0 z1 z2 z3
                        refine region_free (by kernel_rfl) (by kernel_rfl) 178 rfl [80, 81, 82, 83, 84, 85, 86, 87, 88, 89, 10, 11, 12] [1, 4, 9, 10, 11, 12, 13] [(81, 1), (84, 4), (89, 9), (10, 10), (11, 11)]
                          [(80, [], fun _ => .agg #[.int .i64 x.id, .int .i64 x.len, .int .i64 x.gen, .slice Ap np cp]), (82, [], fun _ => .pointer (some ⟨w.heap.size, 2, none⟩)), (83, [], fun _ => .agg #[.slice A0 n0 c0, .slice A1 n1 c1]), (85, [], fun _ => .slice (some ⟨bl, ol, none⟩) nl cl), (86, [], fun _ => .int .i64 (kc : Int)),
                            (87, [], fun _ => .pointer (some ⟨bl, ol + kc, none⟩)), (88, [], fun _ => .slice Al ql cq'), (12, [9], fun l => l.getD 0 undef)]
                          [[], [12], [], [], [9], [], [], [], [], [12], [12], [12], [13], [], []] [[], [], [], [], [], [], [], [], [], [], [], [], [1, 9, 10, 11], [4, 10, 11, 12], []] [[], [80], [], [82], [83], [], [], [85, 86], [87], [88], [], [], [10, 81], [11, 84], [89]]
                          (WdT wl wl.heap.size (R19 x p.y lk wl) (fun us => 9 ∈ us.map Prod.fst) 12 13 (stB 10 1) (stB 11 4)) (by kernel_rfl) .init ⟨?_, ?_, ?_, ?_, ?_, ?_, ?_, ?_, ?_, ?_, ?_, ?_, ?_, ?_, ?_, trivial⟩ ?_
                        -- FAST15 cdot
                        · (refine OpH.rd rfl rfl (fun ρ us w6 ho ht hc hl hsrc hW => ?_); have e6 := (ho 6 rfl).trans (show _ = (.pointer (some ⟨g6, 0, none⟩) : Value) from rfl); obtain ⟨_, ⟨z0, z1, z2, z3⟩, _⟩ := CEL.out us w6 hW; clear ht ho; simp only [execOp, e6]; go_simp; try rfl)
                        · refine OpH.wr rfl (fun Z us w6 ho ht hni hlim hreq hW K hK => ?_)
                          have e80 := (ht 80 (by decide)).trans (show _ = (.agg #[.int .i64 x.id, .int .i64 x.len, .int .i64 x.gen, .slice Ap np cp] : Value) from rfl)
                          have hn := hlim 12 (by decide)
                          have hb6 := (hW.early hn).1
                          have hpp := HPLl.out.all hb6
                          have hcl := CopyStripe_c (w := w6) (x := x) HXI.out hpp (by have := hpp.len; have := HP3.out; omega)
                          refine step_call rfl 47 #[.tmp 80] #[79] rfl Try.func47 (by kernel_rfl) (by kernel_rfl) #[.agg #[.int .i64 x.id, .int .i64 x.len, .int .i64 x.gen, .slice Ap np cp]] (by simp [e80]) (hcl) ?_
                          rintro e w7 ⟨vs, rfl, ⟨A, n, c, rfl, _, t0⟩, hb7⟩
                          exact ⟨_, rfl, hK _ _ (hW.snoc (by decide) (by decide) hn hb7 (fun j v h => R19.all hb7 j v h) ⟨fun _ => ⟨_, _, _, rfl, t0.mono (fun b hb _ => Nat.le_trans hb6.size hb)⟩, fun h => absurd h (by decide), fun h => absurd h (by decide), fun h => absurd h (by decide), fun h => absurd h (by decide)⟩)⟩
                        · (refine OpH.rd rfl rfl (fun ρ us w6 ho ht hc hl hsrc hW => ?_); have e1 := (ho 1 rfl).trans (show _ = (.pointer (some ⟨w.heap.size, 0, none⟩) : Value) from rfl); clear ht ho; simp only [execOp, e1]; go_simp; try rfl)
                        · (refine OpH.rd rfl rfl (fun ρ us w6 ho ht hc hl hsrc hW => ?_); have e82 := (ht 82 (by decide)).trans (show _ = (.pointer (some ⟨w.heap.size, 2, none⟩) : Value) from rfl); obtain ⟨⟨y2, y3⟩, _, _⟩ := CEL.out us w6 hW; clear ht ho; simp only [execOp, e82]; go_simp; try rfl)
                        · refine OpH.wr rfl (fun Z us w6 ho ht hni hlim hreq hW K hK => ?_)
                          have e83 := (ht 83 (by decide)).trans (show _ = (.agg #[.slice A0 n0 c0, .slice A1 n1 c1] : Value) from rfl)
                          have hn9 := hlim 9 (by decide)
                          have hn : 12 ∉ us.map Prod.fst := fun h12 => by
                            obtain ⟨us0, us1, rfl, h9⟩ := hW.had h12
                            exact hn9 (by rw [List.map_append]; exact List.mem_append_left _ h9)
                          have hb6 := (hW.early hn).1
                          have hA := HR.out w6 (HAL.out _ (HNL.out.below.trans (hb6.mono HNL.out.below.size)))
                          have hcl := CopySlots_c (w := w6) hA.y0 hA.y1 (by have := HLT.out.2.1.1; have := hA.y0.len; omega) (by have := HLT.out.2.1.2.1; have := hA.y1.len; omega) (fun r hr => by have := HLT.out.2.1.2.2 r hr; omega)
                          refine step_call rfl 48 #[.tmp 83] #[62] rfl Try.func48 (by kernel_rfl) (by kernel_rfl) #[.agg #[.slice A0 n0 c0, .slice A1 n1 c1]] (by simp [e83]) (hcl) ?_
                          rintro e w7 ⟨vs, rfl, ⟨B0, m0, d0, B1, m1, d1, rfl, _, t0, t1⟩, hb7⟩
                          exact ⟨_, rfl, hK _ _ (hW.snoc (by decide) (by decide) hn hb7 (fun j v h => R19.all hb7 j v h) ⟨fun h => absurd h (by decide), fun _ => ⟨_, _, _, _, _, _, rfl, t0.mono (fun b hb _ => Nat.le_trans hb6.size hb), t1.mono (fun b hb _ => Nat.le_trans hb6.size hb)⟩, fun h => absurd h (by decide), fun h => absurd h (by decide), fun h => absurd h (by decide)⟩)⟩
                        · (refine OpH.rd rfl rfl (fun ρ us w6 ho ht hc hl hsrc hW => ?_); have e8 := (ho 8 rfl).trans (show _ = (.slice (some ⟨bl, ol, none⟩) nl cl : Value) from rfl); clear ht ho; simp only [execOp, e8]; go_simp; try rfl)
                        · (refine OpH.rd rfl rfl (fun ρ us w6 ho ht hc hl hsrc hW => ?_); have e9 := (ho 9 rfl).trans (show _ = (.int .i64 (kc : Int) : Value) from rfl); clear ht ho; simp only [execOp, e9]; go_simp; try rfl)
                        · (refine OpH.rd rfl rfl (fun ρ us w6 ho ht hc hl hsrc hW => ?_); have e85 := (ht 85 (by decide)).trans (show _ = (.slice (some ⟨bl, ol, none⟩) nl cl : Value) from rfl); have e86 := (ht 86 (by decide)).trans (show _ = (.int .i64 (kc : Int) : Value) from rfl); clear ht ho; simp only [execOp, e85, e86]; go_simp; try rfl)
                        · (refine OpH.rd rfl rfl (fun ρ us w6 ho ht hc hl hsrc hW => ?_); have e87 := (ht 87 (by decide)).trans (show _ = (.pointer (some ⟨bl, ol + kc, none⟩) : Value) from rfl); obtain ⟨_, _, y0⟩ := CEL.out us w6 hW; clear ht ho; simp only [execOp, e87]; go_simp; try rfl)
                        · refine OpH.wr rfl (fun Z us w6 ho ht hni hlim hreq hW K hK => ?_)
                          have e88 := (ht 88 (by decide)).trans (show _ = (.slice Al ql cq' : Value) from rfl)
                          have hn := hlim 12 (by decide)
                          have hb6 := (hW.early hn).1
                          have hcl := CopyBools_c (w := w6) (HGL.out.all hb6) (by have := HLK.out; omega)
                          rw [show (Value.slice Al ql cq') = Value.slice Al ql cq' from rfl] at hcl
                          refine step_call rfl 49 #[.tmp 88] #[30] rfl Try.func49 (by kernel_rfl) (by kernel_rfl) #[.slice Al ql cq'] (by simp [e88]) (hcl) ?_
                          rintro e w7 ⟨A, c, rfl, t0, hb7⟩
                          exact ⟨_, rfl, hK _ _ (hW.snoc (by decide) (by decide) hn hb7 (fun j v h => R19.all hb7 j v h) ⟨fun h => absurd h (by decide), fun h => absurd h (by decide), fun _ => ⟨_, _, _, rfl, (t0.sl (tg := true)).mono (fun b hb _ => Nat.le_trans hb6.size (hb.elim id id))⟩, fun h => absurd h (by decide), fun h => absurd h (by decide)⟩)⟩
                        · refine OpH.wr rfl (fun Z us w6 ho ht hni hlim hreq hW K hK => ?_)
                          have hn := hlim 12 (by decide)
                          have hdone := hW.snoc (i := 10) (x := .pointer (some ⟨w6.heap.size, 0, none⟩)) (by decide) (by decide) hn ((Below.refl _ _).alloc (Nat.le_refl _) (.cells #[.int .i64 0, .int .i64 0, .int .i64 0, .slice none 0 0] 79)) (fun j v h => R19.all ((Below.refl _ _).alloc (Nat.le_refl _) _) j v h) ⟨fun h => absurd h (by decide), fun h => absurd h (by decide), fun h => absurd h (by decide), fun _ => ⟨_, rfl, (hW.early hn).1.size, heap_alloc_new _ _⟩, fun h => absurd h (by decide)⟩
                          have HDN := Lib.hid hdone; clear hdone hW hni hlim hreq ho ht hn
                          rw [if_pos (by simp [Region.wanted])]
                          unfold Oper.wp
                          generalize Z.eval = ρ at *
                          simp only [execOp]
                          go_simp
                          exact hK _ _ HDN.out
                        · refine OpH.wr rfl (fun Z us w6 ho ht hni hlim hreq hW K hK => ?_)
                          have hn := hlim 12 (by decide)
                          have hdone := hW.snoc (i := 11) (x := .pointer (some ⟨w6.heap.size, 0, none⟩)) (by decide) (by decide) hn ((Below.refl _ _).alloc (Nat.le_refl _) (.cells #[.slice none 0 0, .slice none 0 0] 62)) (fun j v h => R19.all ((Below.refl _ _).alloc (Nat.le_refl _) _) j v h) ⟨fun h => absurd h (by decide), fun h => absurd h (by decide), fun h => absurd h (by decide), fun h => absurd h (by decide), fun _ => ⟨_, rfl, (hW.early hn).1.size, heap_alloc_new _ _⟩⟩
                          have HDN := Lib.hid hdone; clear hdone hW hni hlim hreq ho ht hn
                          rw [if_pos (by simp [Region.wanted])]
                          unfold Oper.wp
                          generalize Z.eval = ρ at *
                          simp only [execOp]
                          go_simp
                          exact hK _ _ HDN.out
                        · refine OpH.wr rfl (fun Z us w6 ho ht hni hlim hreq hW K hK => ?_)
                          obtain ⟨v1, l1, m1⟩ := lookup_mem (hreq 1 (by decide))
                          obtain ⟨v10, l10, m10⟩ := lookup_mem (hreq 10 (by decide))
                          obtain ⟨A, n, c, rfl, _⟩ := ((hW.early hni).2.1 1 v1 m1).1 rfl
                          obtain ⟨g, rfl, hg, hr⟩ := ((hW.early hni).2.1 10 v10 m10).2.2.2.1 rfl
                          have e10 := ((ht 10 (by decide)).trans (show _ = (us.lookup 10).getD undef from rfl)).trans (show _ = (.pointer (some ⟨g, 0, none⟩) : Value) by rw [l10]; rfl)
                          have e81 := ((ht 81 (by decide)).trans (show _ = (us.lookup 1).getD undef from rfl)).trans (show _ = (.agg #[.int .i64 x.id, .int .i64 x.len, .int .i64 x.gen, .slice A n c] : Value) by rw [l1]; rfl)
                          have hst : stB 10 1 us w6 = setAll g 0 [.int .i64 x.id, .int .i64 x.len, .int .i64 x.gen, .slice A n c] w6 := by unfold stB; rw [l10, l1]; rfl
                          have hdone := hW.store1 hni (x := undef) (hreq 9 (by decide)) (by rw [hst]; exact setAll_below hg _ _ _ (hW.early hni).1)
                          rw [hst] at hdone
                          have f0 := (cell_of_row w6 g 0 _ _ _ hr).trans (show _ = some (Value.int .i64 0) from rfl)
                          have f1 := (cell_of_row w6 g 1 _ _ _ hr).trans (show _ = some (Value.int .i64 0) from rfl)
                          have f2 := (cell_of_row w6 g 2 _ _ _ hr).trans (show _ = some (Value.int .i64 0) from rfl)
                          have f3 := (cell_of_row w6 g 3 _ _ _ hr).trans (show _ = some (Value.slice none 0 0) from rfl)
                          have f4 := frozen_of_row w6 g 0 _ _ hr
                          have f5 := frozen_of_row w6 g 1 _ _ hr
                          have f6 := frozen_of_row w6 g 2 _ _ hr
                          have f7 := frozen_of_row w6 g 3 _ _ hr
                          have HDN := Lib.hid hdone; clear hdone hW hni hlim hreq ho ht hst hr l1 l10 m1 m10
                          rw [if_pos (by simp [Region.wanted])]
                          unfold Oper.wp
                          generalize Z.eval = ρ at *
                          simp only [execOp, e10, e81]
                          go_simp
                          exact hK undef _ HDN.out
                        · refine OpH.wr rfl (fun Z us w6 ho ht hni hlim hreq hW K hK => ?_)
                          have q4 := hreq 4 (by decide)
                          have q11 := hreq 11 (by decide)
                          have q10 := hreq 10 (by decide)
                          obtain ⟨us0, W6, x0, rfl, rfl, hb, hR, hn1, hn2, hp9, hb1⟩ := hW.mid (hreq 12 (by decide)) hni
                          obtain ⟨v10, l10, m10⟩ := lookup_mem (before_mid q10 (by decide))
                          obtain ⟨v4, l4, m4⟩ := lookup_mem (before_mid q4 (by decide))
                          obtain ⟨v11, l11, m11⟩ := lookup_mem (before_mid q11 (by decide))
                          obtain ⟨B0, m0, d0, B1, m1, d1, rfl, _, _⟩ := (hR 4 v4 m4).2.1 rfl
                          obtain ⟨g10, rfl, hg10, r10⟩ := (hR 10 v10 m10).2.2.2.1 rfl
                          obtain ⟨g11, rfl, hg11, r11⟩ := (hR 11 v11 m11).2.2.2.2 rfl
                          have hne : g11 ≠ g10 := fun e => by rw [e, r10] at r11; cases r11
                          have e11 := ((ht 11 (by decide)).trans (show _ = ((us0 ++ [(12, x0)]).lookup 11).getD undef from rfl)).trans (show _ = (.pointer (some ⟨g11, 0, none⟩) : Value) by rw [lookup_mid (by decide), l11]; rfl)
                          have e84 := ((ht 84 (by decide)).trans (show _ = ((us0 ++ [(12, x0)]).lookup 4).getD undef from rfl)).trans (show _ = (.agg #[.slice B0 m0 d0, .slice B1 m1 d1] : Value) by rw [lookup_mid (by decide), l4]; rfl)
                          have r11' : (stB 10 1 us0 W6).heap[g11]? = some (.cells #[.slice none 0 0, .slice none 0 0] 62 (0, 0)) := by
                            unfold stB
                            rw [l10]
                            exact (setAll_other hne _ _ _).trans r11
                          have hst : ∀ W, stB 11 4 us0 W = setAll g11 0 [.slice B0 m0 d0, .slice B1 m1 d1] W := fun W => by unfold stB; rw [l11, l4]; rfl
                          have hdone := WdT.two (V := wl) (m := wl.heap.size) (R := R19 x p.y lk wl) (Pre := fun us => 9 ∈ us.map Prod.fst) (st1 := stB 10 1) (st2 := stB 11 4) (x := x0) (x' := undef) hb hR hn1 hn2 hp9 (by rw [hst]; exact setAll_below hg11 _ _ _ hb1)
                          rw [hst] at hdone
                          have HDN := Lib.hid hdone; clear hdone hst hb hR hn1 hn2 hb1 hW hni hlim hreq ho ht q10 q11 q4 l10 l11 l4 m10 m11 m4 r10 r11 hp9
                          generalize stB 10 1 us0 W6 = W7 at *
                          have f0 := (cell_of_row W7 g11 0 _ _ _ r11').trans (show _ = some (Value.slice none 0 0) from rfl)
                          have f1 := (cell_of_row W7 g11 1 _ _ _ r11').trans (show _ = some (Value.slice none 0 0) from rfl)
                          have f4 := frozen_of_row W7 g11 0 _ _ r11'
                          have f5 := frozen_of_row W7 g11 1 _ _ r11'
                          clear r11'
                          rw [if_pos (by simp [Region.wanted])]
                          unfold Oper.wp
                          generalize Z.eval = ρ at *
                          simp only [execOp, e11, e84]
                          go_simp
                          exact hK undef _ HDN.out
                        · (refine OpH.rd rfl rfl (fun ρ us w6 ho ht hc hl hsrc hW => ?_); have e89 := (ht 89 (by decide)).trans (show _ = ((us.lookup 9).getD undef : Value) from rfl); clear ht ho; simp only [execOp, e89]; go_simp; try rfl)
                        -- TSAF
                        · intro us w9 hmem hW
                          obtain ⟨us0, W6, x0, x1, rfl, rfl, hb, hR, hn1, hn2, _, _⟩ := hW.last (hmem 13 (by decide)) (by decide)
                          obtain ⟨v1, l1, m1⟩ := lookup_mem (before_last (hmem 1 (by decide)) (by decide) (by decide))
                          obtain ⟨v4, l4, m4⟩ := lookup_mem (before_last (hmem 4 (by decide)) (by decide) (by decide))
                          obtain ⟨v9, l9, m9⟩ := lookup_mem (before_last (hmem 9 (by decide)) (by decide) (by decide))
                          obtain ⟨v10, l10, m10⟩ := lookup_mem (before_last (hmem 10 (by decide)) (by decide) (by decide))
                          obtain ⟨v11, l11, m11⟩ := lookup_mem (before_last (hmem 11 (by decide)) (by decide) (by decide))
                          obtain ⟨Aq, nq, cq, rfl, t1⟩ := (hR 1 v1 m1).1 rfl
                          obtain ⟨B0, m0, d0, B1, m1', d1, rfl, t2, t3⟩ := (hR 4 v4 m4).2.1 rfl
                          obtain ⟨Al2, ql2, cl2, rfl, t4⟩ := (hR 9 v9 m9).2.2.1 rfl
                          obtain ⟨g10, rfl, hg10, r10⟩ := (hR 10 v10 m10).2.2.2.1 rfl
                          obtain ⟨g11, rfl, hg11, r11⟩ := (hR 11 v11 m11).2.2.2.2 rfl
                          have hst1 : stB 10 1 us0 W6 = setAll g10 0 [.int .i64 x.id, .int .i64 x.len, .int .i64 x.gen, .slice Aq nq cq] W6 := by unfold stB; rw [l10, l1]; rfl
                          have hst2 : ∀ W, stB 11 4 us0 W = setAll g11 0 [.slice B0 m0 d0, .slice B1 m1' d1] W := fun W => by unfold stB; rw [l11, l4]; rfl
                          rw [hst2, hst1]
                          have hIR := IR.of19 HNL.out HPLl.out HLLl.out hb t1 t2 t3 t4 hg10 hg11 r10 r11
                          have hB9 := setAll_below hg11 [.slice B0 m0 d0, .slice B1 m1' d1] 0 _ (setAll_below hg10 [.int .i64 x.id, .int .i64 x.len, .int .i64 x.gen, .slice Aq nq cq] 0 _ hb)
                          simp only [putAll, List.map_cons, List.map_nil, List.foldl_cons, List.foldl_nil, Act.put, List.setIfInBounds_toArray, List.set_cons_succ, List.set_cons_zero]
                          generalize hsv : slotAt _ _ _ = sv
                          have hs10 : sv 10 = .pointer (some ⟨g10, 0, none⟩) := by rw [← hsv]; show ((us0 ++ [(12, x0)] ++ [(13, x1)]).lookup 10).getD undef = _; rw [lookup_last (by decide) (by decide), l10]; rfl
                          have hs11 : sv 11 = .pointer (some ⟨g11, 0, none⟩) := by rw [← hsv]; show ((us0 ++ [(12, x0)] ++ [(13, x1)]).lookup 11).getD undef = _; rw [lookup_last (by decide) (by decide), l11]; rfl
                          have hs12 : sv 12 = .slice Al2 ql2 cl2 := by rw [← hsv]; show ((us0 ++ [(12, x0)] ++ [(13, x1)]).lookup 9).getD undef = _; rw [lookup_last (by decide) (by decide), l9]; rfl
                          rw [hs10, hs11, hs12]
                          clear hsv hs10 hs11 hs12 hst1 hst2 hb hR hn1 hn2 hW hmem l1 l4 l9 l10 l11 m1 m4 m9 m10 m11 r10 r11 CEL t1 t2 t3 t4
                          generalize setAll g11 0 [.slice B0 m0 d0, .slice B1 m1' d1] (setAll g10 0 [.int .i64 x.id, .int .i64 x.len, .int .i64 x.gen, .slice Aq nq cq] W6) = w20 at *
                          have HIR := Lib.hid hIR; clear hIR
                          have HBW := Lib.hid hB9; clear hB9
                          have hwl20 : wl.heap.size ≤ w20.heap.size := HBW.out.size
                          have LST := Lib.hid (fun V (hV : Below wl.heap.size wl V) => And.intro ((hV.cell (p := ⟨bl, ol + kc, none⟩) hbll).trans hlc) (HGL.out.all hV))
                          clear hlc
                          obtain ⟨⟨k0, k1, k2⟩, _⟩ := HIR.out.nb.cells
                          obtain ⟨⟨z0, z1, z2, z3⟩, z4, z5⟩ := HIR.out.in_
                          go_wp2_with fail
                          refine (Needs_c HSI.out HXI.out HIR.out.sp HIR.out.s0 HIR.out.s1 HIR.out.sl).mono ?_
                          clear k0 k1 k2 z0 z1 z2 z3 z4 z5
                          rintro e w21 ⟨Ai, ni, ci, At, nt, ct, D0, q0, r0, D1, q1, r1, rfl, ti, tt, tl, tf, hb21⟩
                          generalize hRR : needR s x p.y lk = RR at *
                          have HRR := Lib.hid hRR; clear hRR
                          have HT := Lib.hid (show _ ∧ _ ∧ _ ∧ _ from ⟨ti, tt, tl, tf⟩); clear ti tt tl tf
                          have HB21 := Lib.hid hb21; clear hb21
                          go_upto_region 21 with (fail)
                          have hno := NO.made (R := RR) (m := w20.heap.size) HT.out.1 HT.out.2.1 HT.out.2.2.1 HT.out.2.2.2 HB21.out.size
                          have hb22 : Below w20.heap.size w20 ((w21.alloc (.cells #[.int .i64 RR.1.stripe, .slice Ai ni ci, .slice At nt ct] 88)).alloc (.cells #[.slice D0 q0 r0, .slice D1 q1 r1] 62)) := (HB21.out.alloc HB21.out.size _).alloc (by have := HB21.out.size; simp; omega) _
                          clear HT HB21
                          generalize ((w21.alloc (.cells #[.int .i64 RR.1.stripe, .slice Ai ni ci, .slice At nt ct] 88)).alloc (.cells #[.slice D0 q0 r0, .slice D1 q1 r1] 62)) = w22 at *
                          generalize hm22 : w21.heap.size + 1 + 1 = m22 at *
                          generalize w21.heap.size + 1 = g14 at *
                          generalize w21.heap.size = g13 at *
                          clear hm22
                          have HNO := Lib.hid hno; clear hno
                          have HIR2 := Lib.hid (HIR.out.all hb22); clear HIR
                          have HBW22 := Lib.hid (HBW.out.trans (hb22.mono HBW.out.size)); clear HBW hb22
                          go_upto_region 24 with (fail)
                          obtain ⟨hnz, hb24⟩ := NO.zero w22
                          generalize ((w22.alloc (.cells #[.int .i64 0, .slice none 0 0, .slice none 0 0] 88)).alloc (.cells #[.slice none 0 0, .slice none 0 0] 62)) = w24 at *
                          have HNZ := Lib.hid hnz; clear hnz
                          have HB24 := Lib.hid hb24; clear hb24
                          have HIR3 := Lib.hid (HIR2.out.all HB24.out)
                          have HBW24 := Lib.hid (HBW22.out.trans (HB24.out.mono HBW22.out.size))
                          have h2022 : w20.heap.size ≤ w22.heap.size := HIR2.out.lo
                          have hwl22 : wl.heap.size ≤ w22.heap.size := HBW22.out.size
                          have h2224 : w22.heap.size ≤ w24.heap.size := HB24.out.size
                          generalize hsb : slotsOkB p.y = sb at *
                          have HSB := Lib.hid hsb; clear hsb
                          have CEL := Lib.hid (fun w6 (hb : Below w24.heap.size w24 w6) => And.intro (show w6.cell? ⟨w.heap.size, 2, none⟩ = some (.slice A0 n0 c0) ∧ w6.cell? ⟨w.heap.size, 3, none⟩ = some (.slice A1 n1 c1) from by
                            obtain ⟨_, _, y2, y3, _, _⟩ := CELLS.out w6 (HIR3.out.all hb).nb.below; exact ⟨y2, y3⟩) (And.intro (LST.out w6 (HBW24.out.trans (hb.mono HBW24.out.size))).1 (show w6.cell? ⟨g5, 0, none⟩ = some (.int .i64 s.K) ∧ w6.cell? ⟨g5, 1, none⟩ = some (.int .i64 s.M) from by
                            obtain ⟨⟨k0, k1, _⟩, _⟩ := (HIR3.out.all hb).nb.cells; exact ⟨k0, k1⟩)))
                          go_cut [117] from 99 to 176 (fun t117 V => t117 = .bool (r && sb && decide ((ql : Int) = s.K + s.M)) ∧ Hid (Below w24.heap.size w24 V))
                          case first =>
                            cases r with
                            | false =>
                              refine region_free (by kernel_rfl) (by kernel_rfl) 178 rfl [99, 100, 101, 102, 103, 104, 105, 106, 107, 108, 109, 110, 111, 112, 113, 114, 115, 116, 117] [] []
                                    [(99, [], fun _ => .bool false), (100, [], fun _ => .bool false), (101, [], fun _ => undef), (102, [], fun _ => undef), (103, [], fun _ => undef), (104, [], fun _ => .bool false), (105, [], fun _ => .bool false), (106, [], fun _ => undef), (107, [], fun _ => undef), (108, [], fun _ => undef), (109, [], fun _ => undef), (110, [], fun _ => undef), (111, [], fun _ => undef), (112, [], fun _ => undef), (113, [], fun _ => undef), (114, [], fun _ => undef), (115, [], fun _ => undef), (116, [], fun _ => undef), (117, [], fun _ => .bool false)]
                                    [] [] [[], [99], [100], [101, 100], [102, 100], [100, 103], [104], [105], [105], [106, 107, 105], [108, 105], [109, 105], [105], [111, 105], [105], [113, 105], [112, 114, 105], [110, 115, 105], [105, 116]] (WdB w24 (R24 sb)) (by kernel_rfl) .init ⟨?_, ?_, ?_, ?_, ?_, ?_, ?_, ?_, ?_, ?_, ?_, ?_, ?_, ?_, ?_, ?_, ?_, ?_, ?_, trivial⟩ ?_
                              -- FAST19 cdot
                              · (refine OpH.rd rfl rfl (fun ρ us w6 ho ht hc hl hsrc hW => ?_); have e7 := (ho 7 rfl).trans (show _ = (.bool false : Value) from rfl); clear ht ho; simp only [execOp, e7]; go_simp; try rfl)
                              · (refine OpH.rd rfl rfl (fun ρ us w6 ho ht hc hl hsrc hW => ?_); have e99 := (ht 99 (by decide)).trans (show _ = (.bool false : Value) from rfl); clear ht ho; simp only [execOp, e99]; go_simp; try rfl)
                              · (exact OpH.rdn rfl 1 100 true rfl rfl (by decide) (fun _ _ _ => rfl) (fun _ => rfl))
                              · (exact OpH.rdn rfl 1 100 true rfl rfl (by decide) (fun _ _ _ => rfl) (fun _ => rfl))
                              · (exact OpH.rdn rfl 1 100 true rfl rfl (by decide) (fun _ _ _ => rfl) (fun _ => rfl))
                              · (refine OpH.rd rfl rfl (fun ρ us w6 ho ht hc hl hsrc hW => ?_); have e100 := (ht 100 (by decide)).trans (show _ = (.bool false : Value) from rfl); have e103 := (ht 103 (by decide)).trans (show _ = (undef : Value) from rfl); clear ht ho; simp only [execOp, e100, e103]; go_simp; try rfl)
                              · (refine OpH.rd rfl rfl (fun ρ us w6 ho ht hc hl hsrc hW => ?_); have e104 := (ht 104 (by decide)).trans (show _ = (.bool false : Value) from rfl); clear ht ho; simp only [execOp, e104]; go_simp; try rfl)
                              · (exact OpH.rdn rfl 6 105 true rfl rfl (by decide) (fun _ _ _ => rfl) (fun _ => rfl))
                              · (exact OpH.rdn rfl 6 105 true rfl rfl (by decide) (fun _ _ _ => rfl) (fun _ => rfl))
                              · (exact OpH.rdn rfl 6 105 true rfl rfl (by decide) (fun _ _ _ => rfl) (fun _ => rfl))
                              · (exact OpH.rdn rfl 6 105 true rfl rfl (by decide) (fun _ _ _ => rfl) (fun _ => rfl))
                              · (exact OpH.rdn rfl 6 105 true rfl rfl (by decide) (fun _ _ _ => rfl) (fun _ => rfl))
                              · (exact OpH.rdn rfl 6 105 true rfl rfl (by decide) (fun _ _ _ => rfl) (fun _ => rfl))
                              · (exact OpH.rdn rfl 6 105 true rfl rfl (by decide) (fun _ _ _ => rfl) (fun _ => rfl))
                              · (exact OpH.rdn rfl 6 105 true rfl rfl (by decide) (fun _ _ _ => rfl) (fun _ => rfl))
                              · (exact OpH.rdn rfl 6 105 true rfl rfl (by decide) (fun _ _ _ => rfl) (fun _ => rfl))
                              · (exact OpH.rdn rfl 6 105 true rfl rfl (by decide) (fun _ _ _ => rfl) (fun _ => rfl))
                              · (exact OpH.rdn rfl 6 105 true rfl rfl (by decide) (fun _ _ _ => rfl) (fun _ => rfl))
                              · (refine OpH.rd rfl rfl (fun ρ us w6 ho ht hc hl hsrc hW => ?_); have e105 := (ht 105 (by decide)).trans (show _ = (.bool false : Value) from rfl); have e116 := (ht 116 (by decide)).trans (show _ = (undef : Value) from rfl); clear ht ho; simp only [execOp, e105, e116]; go_simp; try rfl)
                              -- TSAF
                              · intro us w25 hmem hW
                                simp only [putAll, List.map_cons, List.map_nil, List.foldl_cons, List.foldl_nil, Act.put, List.setIfInBounds_toArray, List.set_cons_succ, List.set_cons_zero]
                                generalize hsv : slotAt _ _ us = sv
                                have h117 : sv 117 = .bool false := by rw [← hsv]; rfl
                                rw [h117]
                                have HBq := Lib.hid hW.1
                                clear hsv h117 hmem hW
                                go_wp2
                                go_meet
                                case rel => exact ⟨by rfl, HBq⟩
                            | true =>
                              cases sb with
                              | false =>
                                refine region_free (by kernel_rfl) (by kernel_rfl) 178 rfl [99, 100, 101, 102, 103, 104, 105, 106, 107, 108, 109, 110, 111, 112, 113, 114, 115, 116, 117] [4] [(103, 4)]
                                      [(99, [], fun _ => .bool true), (100, [], fun _ => .bool true), (101, [], fun _ => (.pointer (some ⟨w.heap.size, 2, none⟩))), (102, [], fun _ => .agg #[.slice A0 n0 c0, .slice A1 n1 c1]), (104, [4], fun _ => .bool false), (105, [4], fun _ => .bool false), (106, [], fun _ => undef), (107, [], fun _ => undef), (108, [], fun _ => undef), (109, [], fun _ => undef), (110, [], fun _ => undef), (111, [], fun _ => undef), (112, [], fun _ => undef), (113, [], fun _ => undef), (114, [], fun _ => undef), (115, [], fun _ => undef), (116, [], fun _ => undef), (117, [], fun _ => .bool false)]
                                      [] [] [[], [99], [100], [101, 100], [102, 100], [100, 103], [104], [105], [105], [106, 107, 105], [108, 105], [109, 105], [105], [111, 105], [105], [113, 105], [112, 114, 105], [110, 115, 105], [105, 116]] (WdB w24 (R24 false)) (by kernel_rfl) .init ⟨?_, ?_, ?_, ?_, ?_, ?_, ?_, ?_, ?_, ?_, ?_, ?_, ?_, ?_, ?_, ?_, ?_, ?_, ?_, trivial⟩ ?_
                                -- FAST19 cdot
                                · (refine OpH.rd rfl rfl (fun ρ us w6 ho ht hc hl hsrc hW => ?_); have e7 := (ho 7 rfl).trans (show _ = (.bool true : Value) from rfl); clear ht ho; simp only [execOp, e7]; go_simp; try rfl)
                                · (refine OpH.rd rfl rfl (fun ρ us w6 ho ht hc hl hsrc hW => ?_); have e99 := (ht 99 (by decide)).trans (show _ = (.bool true : Value) from rfl); clear ht ho; simp only [execOp, e99]; go_simp; try rfl)
                                · (refine OpH.rdg rfl 1 100 true rfl rfl (by decide) (fun _ _ _ => rfl) (fun ρ us w6 ho ht hc hl hsrc hW => ?_); have e1 := (ho 1 rfl).trans (show _ = (.pointer (some ⟨w.heap.size, 0, none⟩) : Value) from rfl); clear ht ho; simp only [execOp, e1]; go_simp; try rfl)
                                · (refine OpH.rdg rfl 1 100 true rfl rfl (by decide) (fun _ _ _ => rfl) (fun ρ us w6 ho ht hc hl hsrc hW => ?_); have e101 := (ht 101 (by decide)).trans (show _ = (.pointer (some ⟨w.heap.size, 2, none⟩) : Value) from rfl); obtain ⟨⟨y2, y3⟩, _⟩ := CEL.out w6 hW.1; clear ht ho; simp only [execOp, e101]; go_simp; try rfl)
                                · refine OpH.wr rfl (fun Z us w6 ho ht hni hlim hreq hW K hK => ?_)
                                  have e100 := (ht 100 (by decide)).trans (show _ = (.bool true : Value) from rfl)
                                  have e102 := (ht 102 (by decide)).trans (show _ = (.agg #[.slice A0 n0 c0, .slice A1 n1 c1] : Value) from rfl)
                                  have hA := HR.out w6 (HAL.out _ (HIR3.out.all hW.1).nb.below)
                                  have hcl := refSlots_c hA.y0 hA.y1
                                  rw [HSB.out] at hcl
                                  refine step_callw (GuardOk.wanted (.at_ (j := 1) (t := 100) (b := true) rfl rfl e100)) 51 #[.tmp 102] #[62] rfl Try.func51 (by kernel_rfl) (by kernel_rfl) #[.agg #[.slice A0 n0 c0, .slice A1 n1 c1]] (by simp [e102]) hcl ?_
                                  rintro e w7 ⟨rfl, hb7⟩
                                  exact ⟨_, rfl, hK _ _ (hW.snoc hb7 (fun j v h => h) (fun _ => rfl))⟩
                                · (refine OpH.rd rfl rfl (fun ρ us w6 ho ht hc hl hsrc hW => ?_); have e100 := (ht 100 (by decide)).trans (show _ = (.bool true : Value) from rfl); have e103 := (ht 103 (by decide)).trans (show _ = ((us.lookup 4).getD undef : Value) from rfl); rw [hW.at_ (hsrc 4 (by exact (List.mem_singleton.2 rfl : (4 : Nat) ∈ [4]))) rfl] at e103; clear ht ho; simp only [execOp, e100, e103]; go_simp; try rfl)
                                · (refine OpH.rd rfl rfl (fun ρ us w6 ho ht hc hl hsrc hW => ?_); have e104 := (ht 104 (by decide)).trans (show _ = (.bool false : Value) from rfl); clear ht ho; simp only [execOp, e104]; go_simp; try rfl)
                                · (exact OpH.rdn rfl 6 105 true rfl rfl (by decide) (fun _ _ _ => rfl) (fun _ => rfl))
                                · (exact OpH.rdn rfl 6 105 true rfl rfl (by decide) (fun _ _ _ => rfl) (fun _ => rfl))
                                · (exact OpH.rdn rfl 6 105 true rfl rfl (by decide) (fun _ _ _ => rfl) (fun _ => rfl))
                                · (exact OpH.rdn rfl 6 105 true rfl rfl (by decide) (fun _ _ _ => rfl) (fun _ => rfl))
                                · (exact OpH.rdn rfl 6 105 true rfl rfl (by decide) (fun _ _ _ => rfl) (fun _ => rfl))
                                · (exact OpH.rdn rfl 6 105 true rfl rfl (by decide) (fun _ _ _ => rfl) (fun _ => rfl))
                                · (exact OpH.rdn rfl 6 105 true rfl rfl (by decide) (fun _ _ _ => rfl) (fun _ => rfl))
                                · (exact OpH.rdn rfl 6 105 true rfl rfl (by decide) (fun _ _ _ => rfl) (fun _ => rfl))
                                · (exact OpH.rdn rfl 6 105 true rfl rfl (by decide) (fun _ _ _ => rfl) (fun _ => rfl))
                                · (exact OpH.rdn rfl 6 105 true rfl rfl (by decide) (fun _ _ _ => rfl) (fun _ => rfl))
                                · (exact OpH.rdn rfl 6 105 true rfl rfl (by decide) (fun _ _ _ => rfl) (fun _ => rfl))
                                · (refine OpH.rd rfl rfl (fun ρ us w6 ho ht hc hl hsrc hW => ?_); have e105 := (ht 105 (by decide)).trans (show _ = (.bool false : Value) from rfl); have e116 := (ht 116 (by decide)).trans (show _ = (undef : Value) from rfl); clear ht ho; simp only [execOp, e105, e116]; go_simp; try rfl)
                                -- TSAF
                                · intro us w25 hmem hW
                                  simp only [putAll, List.map_cons, List.map_nil, List.foldl_cons, List.foldl_nil, Act.put, List.setIfInBounds_toArray, List.set_cons_succ, List.set_cons_zero]
                                  generalize hsv : slotAt _ _ us = sv
                                  have h117 : sv 117 = .bool false := by rw [← hsv]; rfl
                                  rw [h117]
                                  have HBq := Lib.hid hW.1
                                  clear hsv h117 hmem hW
                                  go_wp2
                                  go_meet
                                  case rel => exact ⟨by rfl, HBq⟩
                              | true =>
                                obtain ⟨⟨d1, d2, d3, d4⟩, _⟩ := stripeOk_dims HMAY.out
                                refine region_free (by kernel_rfl) (by kernel_rfl) 178 rfl [99, 100, 101, 102, 103, 104, 105, 106, 107, 108, 109, 110, 111, 112, 113, 114, 115, 116, 117] [4] [(103, 4)]
                                      [(99, [], fun _ => .bool true), (100, [], fun _ => .bool true), (101, [], fun _ => (.pointer (some ⟨w.heap.size, 2, none⟩))), (102, [], fun _ => .agg #[.slice A0 n0 c0, .slice A1 n1 c1]), (104, [4], fun _ => .bool true), (105, [4], fun _ => .bool true), (106, [], fun _ => .slice (some ⟨bl, ol, none⟩) nl cl), (107, [], fun _ => .int .i64 (kc : Int)), (108, [], fun _ => .pointer (some ⟨bl, ol + kc, none⟩)), (109, [], fun _ => .slice Al ql cq'), (110, [], fun _ => .int .i64 (ql : Int)), (111, [], fun _ => .pointer (some ⟨g5, 0, none⟩)), (112, [], fun _ => .int .i64 s.K), (113, [], fun _ => .pointer (some ⟨g5, 1, none⟩)), (114, [], fun _ => .int .i64 s.M), (115, [], fun _ => .int .i64 (s.K + s.M)), (116, [], fun _ => .bool (decide ((ql : Int) = s.K + s.M))), (117, [], fun _ => .bool (decide ((ql : Int) = s.K + s.M)))]
                                      [] [] [[], [99], [100], [101, 100], [102, 100], [100, 103], [104], [105], [105], [106, 107, 105], [108, 105], [109, 105], [105], [111, 105], [105], [113, 105], [112, 114, 105], [110, 115, 105], [105, 116]] (WdB w24 (R24 true)) (by kernel_rfl) .init ⟨?_, ?_, ?_, ?_, ?_, ?_, ?_, ?_, ?_, ?_, ?_, ?_, ?_, ?_, ?_, ?_, ?_, ?_, ?_, trivial⟩ ?_
                                -- FAST19 cdot
                                · (refine OpH.rd rfl rfl (fun ρ us w6 ho ht hc hl hsrc hW => ?_); have e7 := (ho 7 rfl).trans (show _ = (.bool true : Value) from rfl); clear ht ho; simp only [execOp, e7]; go_simp; try rfl)
                                · (refine OpH.rd rfl rfl (fun ρ us w6 ho ht hc hl hsrc hW => ?_); have e99 := (ht 99 (by decide)).trans (show _ = (.bool true : Value) from rfl); clear ht ho; simp only [execOp, e99]; go_simp; try rfl)
                                · (refine OpH.rdg rfl 1 100 true rfl rfl (by decide) (fun _ _ _ => rfl) (fun ρ us w6 ho ht hc hl hsrc hW => ?_); have e1 := (ho 1 rfl).trans (show _ = (.pointer (some ⟨w.heap.size, 0, none⟩) : Value) from rfl); clear ht ho; simp only [execOp, e1]; go_simp; try rfl)
                                · (refine OpH.rdg rfl 1 100 true rfl rfl (by decide) (fun _ _ _ => rfl) (fun ρ us w6 ho ht hc hl hsrc hW => ?_); have e101 := (ht 101 (by decide)).trans (show _ = (.pointer (some ⟨w.heap.size, 2, none⟩) : Value) from rfl); obtain ⟨⟨y2, y3⟩, _⟩ := CEL.out w6 hW.1; clear ht ho; simp only [execOp, e101]; go_simp; try rfl)
                                · refine OpH.wr rfl (fun Z us w6 ho ht hni hlim hreq hW K hK => ?_)
                                  have e100 := (ht 100 (by decide)).trans (show _ = (.bool true : Value) from rfl)
                                  have e102 := (ht 102 (by decide)).trans (show _ = (.agg #[.slice A0 n0 c0, .slice A1 n1 c1] : Value) from rfl)
                                  have hA := HR.out w6 (HAL.out _ (HIR3.out.all hW.1).nb.below)
                                  have hcl := refSlots_c hA.y0 hA.y1
                                  rw [HSB.out] at hcl
                                  refine step_callw (GuardOk.wanted (.at_ (j := 1) (t := 100) (b := true) rfl rfl e100)) 51 #[.tmp 102] #[62] rfl Try.func51 (by kernel_rfl) (by kernel_rfl) #[.agg #[.slice A0 n0 c0, .slice A1 n1 c1]] (by simp [e102]) hcl ?_
                                  rintro e w7 ⟨rfl, hb7⟩
                                  exact ⟨_, rfl, hK _ _ (hW.snoc hb7 (fun j v h => h) (fun _ => rfl))⟩
                                · (refine OpH.rd rfl rfl (fun ρ us w6 ho ht hc hl hsrc hW => ?_); have e100 := (ht 100 (by decide)).trans (show _ = (.bool true : Value) from rfl); have e103 := (ht 103 (by decide)).trans (show _ = ((us.lookup 4).getD undef : Value) from rfl); rw [hW.at_ (hsrc 4 (by exact (List.mem_singleton.2 rfl : (4 : Nat) ∈ [4]))) rfl] at e103; clear ht ho; simp only [execOp, e100, e103]; go_simp; try rfl)
                                · (refine OpH.rd rfl rfl (fun ρ us w6 ho ht hc hl hsrc hW => ?_); have e104 := (ht 104 (by decide)).trans (show _ = (.bool true : Value) from rfl); clear ht ho; simp only [execOp, e104]; go_simp; try rfl)
                                · (refine OpH.rdg rfl 6 105 true rfl rfl (by decide) (fun _ _ _ => rfl) (fun ρ us w6 ho ht hc hl hsrc hW => ?_); have e8 := (ho 8 rfl).trans (show _ = (.slice (some ⟨bl, ol, none⟩) nl cl : Value) from rfl); clear ht ho; simp only [execOp, e8]; go_simp; try rfl)
                                · (refine OpH.rdg rfl 6 105 true rfl rfl (by decide) (fun _ _ _ => rfl) (fun ρ us w6 ho ht hc hl hsrc hW => ?_); have e9 := (ho 9 rfl).trans (show _ = (.int .i64 (kc : Int) : Value) from rfl); clear ht ho; simp only [execOp, e9]; go_simp; try rfl)
                                · (refine OpH.rdg rfl 6 105 true rfl rfl (by decide) (fun _ _ _ => rfl) (fun ρ us w6 ho ht hc hl hsrc hW => ?_); have e106 := (ht 106 (by decide)).trans (show _ = (.slice (some ⟨bl, ol, none⟩) nl cl : Value) from rfl); have e107 := (ht 107 (by decide)).trans (show _ = (.int .i64 (kc : Int) : Value) from rfl); clear ht ho; simp only [execOp, e106, e107]; go_simp; try rfl)
                                · (refine OpH.rdg rfl 6 105 true rfl rfl (by decide) (fun _ _ _ => rfl) (fun ρ us w6 ho ht hc hl hsrc hW => ?_); have e108 := (ht 108 (by decide)).trans (show _ = (.pointer (some ⟨bl, ol + kc, none⟩) : Value) from rfl); obtain ⟨_, y0, _⟩ := CEL.out w6 hW.1; clear ht ho; simp only [execOp, e108]; go_simp; try rfl)
                                · (refine OpH.rdg rfl 6 105 true rfl rfl (by decide) (fun _ _ _ => rfl) (fun ρ us w6 ho ht hc hl hsrc hW => ?_); have e109 := (ht 109 (by decide)).trans (show _ = (.slice Al ql cq' : Value) from rfl); clear ht ho; simp only [execOp]; go_simp; try rfl)
                                · (refine OpH.rdg rfl 6 105 true rfl rfl (by decide) (fun _ _ _ => rfl) (fun ρ us w6 ho ht hc hl hsrc hW => ?_); have e5 := (ho 5 rfl).trans (show _ = (.pointer (some ⟨g5, 0, none⟩) : Value) from rfl); clear ht ho; simp only [execOp, e5]; go_simp; try rfl)
                                · (refine OpH.rdg rfl 6 105 true rfl rfl (by decide) (fun _ _ _ => rfl) (fun ρ us w6 ho ht hc hl hsrc hW => ?_); have e111 := (ht 111 (by decide)).trans (show _ = (.pointer (some ⟨g5, 0, none⟩) : Value) from rfl); obtain ⟨_, _, k0, k1⟩ := CEL.out w6 hW.1; clear ht ho; simp only [execOp, e111]; go_simp; try rfl)
                                · (refine OpH.rdg rfl 6 105 true rfl rfl (by decide) (fun _ _ _ => rfl) (fun ρ us w6 ho ht hc hl hsrc hW => ?_); have e5 := (ho 5 rfl).trans (show _ = (.pointer (some ⟨g5, 0, none⟩) : Value) from rfl); clear ht ho; simp only [execOp, e5]; go_simp; try rfl)
                                · (refine OpH.rdg rfl 6 105 true rfl rfl (by decide) (fun _ _ _ => rfl) (fun ρ us w6 ho ht hc hl hsrc hW => ?_); have e113 := (ht 113 (by decide)).trans (show _ = (.pointer (some ⟨g5, 1, none⟩) : Value) from rfl); obtain ⟨_, _, k0, k1⟩ := CEL.out w6 hW.1; clear ht ho; simp only [execOp, e113]; go_simp; try rfl)
                                · (refine OpH.rdg rfl 6 105 true rfl rfl (by decide) (fun _ _ _ => rfl) (fun ρ us w6 ho ht hc hl hsrc hW => ?_); have e112 := (ht 112 (by decide)).trans (show _ = (.int .i64 s.K : Value) from rfl); have e114 := (ht 114 (by decide)).trans (show _ = (.int .i64 s.M : Value) from rfl); clear ht ho; simp only [execOp, e112, e114]; go_simp; exact congrArg (Value.int .i64) (Go.IntWalk.i64_in _ (by omega)))
                                · (refine OpH.rdg rfl 6 105 true rfl rfl (by decide) (fun _ _ _ => rfl) (fun ρ us w6 ho ht hc hl hsrc hW => ?_); have e110 := (ht 110 (by decide)).trans (show _ = (.int .i64 (ql : Int) : Value) from rfl); have e115 := (ht 115 (by decide)).trans (show _ = (.int .i64 (s.K + s.M) : Value) from rfl); clear ht ho; simp only [execOp, e110, e115]; go_simp; try rfl)
                                · (refine OpH.rd rfl rfl (fun ρ us w6 ho ht hc hl hsrc hW => ?_); have e105 := (ht 105 (by decide)).trans (show _ = (.bool true : Value) from rfl); have e116 := (ht 116 (by decide)).trans (show _ = (.bool (decide ((ql : Int) = s.K + s.M)) : Value) from rfl); clear ht ho; simp only [execOp, e105, e116]; go_simp; try rfl)
                                -- TSAF
                                · intro us w25 hmem hW
                                  simp only [putAll, List.map_cons, List.map_nil, List.foldl_cons, List.foldl_nil, Act.put, List.setIfInBounds_toArray, List.set_cons_succ, List.set_cons_zero]
                                  generalize hsv : slotAt _ _ us = sv
                                  have h117 : sv 117 = .bool (decide ((ql : Int) = s.K + s.M)) := by rw [← hsv]; rfl
                                  rw [h117]
                                  have HBq := Lib.hid hW.1
                                  clear hsv h117 hmem hW
                                  go_wp2
                                  go_meet
                                  case rel => exact ⟨by rfl, HBq⟩
                          case rest =>
                            rename World => w25
                            obtain ⟨rfl, HB25⟩ := hcut
                            clear CEL
                            have HB225 := Lib.hid (HB24.out.trans (HB25.out.mono HB24.out.size))
                            have HIR4 := Lib.hid (HIR3.out.all HB25.out); clear HIR3
                            have HNZ5 := Lib.hid (HNZ.out.all HB25.out); clear HNZ
                            have HBW25 := Lib.hid (HBW24.out.trans (HB25.out.mono HBW24.out.size)); clear HBW24
                            have h2225 : w22.heap.size ≤ w25.heap.size := HB225.out.size
                            generalize hbb : (r && sb && decide ((ql : Int) = s.K + s.M)) = bb at *
                            have HBB := Lib.hid hbb; clear hbb HB25 HB24
                            go_upto_if 117 with (fail)
                            go_cut [16] from 99 to 176 (fun t16 V => t16 = .int .i64 RR.2.2 ∧ Hid (Below w22.heap.size w22 V) ∧ ∃ m' X n c B k d E0 m0 d0 E1 m1 d1, Hid (NO RR w22.heap.size m' w22.heap.size (w22.heap.size + 1) X n c B k d E0 m0 d0 E1 m1 d1 V))
                            case first =>
                              cases bb with
                              | false =>
                                have HRZ := Lib.hid (HRR.out.symm.trans (needR_no HLK.out.1 HMAY.out HSB.out HBB.out))
                                go_wp2
                                go_meet
                                case rel => exact ⟨by rw [HRZ.out], HB225, _, _, _, _, _, _, _, _, _, _, _, _, _, by rw [HRZ.out]; exact HNZ5⟩
                              | true =>
                                have HCL : Hid (∀ w6, Below w25.heap.size w25 w6 → Calls Try.prog 52 #[.agg #[.int .i64 x.id, .int .i64 x.len, .int .i64 x.gen, .slice Ap np cp], .agg #[.slice A0 n0 c0, .slice A1 n1 c1], .slice Al ql cq', .int .i64 s.K] w6 (RetNSE w6 RR)) := Lib.hid (fun w6 hb6 => by
                                  obtain ⟨hx1, hx2, hx3, hx4⟩ := needR_yes HLK.out.1 HMAY.out HSB.out HBB.out
                                  obtain ⟨⟨d1, d2, d3, d4⟩, d5⟩ := stripeOk_dims hx2
                                  have hIR := HIR4.out.all hb6
                                  have hA := HR.out w6 (HAL.out _ hIR.nb.below)
                                  have hgl := (LST.out w6 (HBW25.out.trans (hb6.mono HBW25.out.size))).2
                                  have hpl := hIR.place.len
                                  have := refNeeds_c (s := s) (x := x) (y := p.y) (good := lk) hx3 (by omega) (by omega) (by omega) hIR.place hA.y0 hA.y1 hgl
                                  rw [← hx1, HRR.out] at this
                                  exact this)
                                have CEL2 : Hid (∀ us w6, WdT w25 w22.heap.size (R25 RR w25) (fun _ => True) 14 15 (stT w22.heap.size 9 0) (stT (w22.heap.size + 1) 9 1) us w6 → (w6.cell? ⟨w.heap.size, 2, none⟩ = some (.slice A0 n0 c0) ∧ w6.cell? ⟨w.heap.size, 3, none⟩ = some (.slice A1 n1 c1)) ∧ (w6.cell? ⟨g6, 0, none⟩ = some (.int .i64 x.id) ∧ w6.cell? ⟨g6, 1, none⟩ = some (.int .i64 x.len) ∧ w6.cell? ⟨g6, 2, none⟩ = some (.int .i64 x.gen) ∧ w6.cell? ⟨g6, 3, none⟩ = some (.slice Ap np cp)) ∧ w6.cell? ⟨bl, ol + kc, none⟩ = some (.slice Al ql cq') ∧ w6.cell? ⟨g5, 0, none⟩ = some (.int .i64 s.K)) := Lib.hid (fun us w6 hW => by
                                  have hb := hW.below h2225
                                  have hIR := HIR4.out.keep (hb.mono h2022)
                                  obtain ⟨_, _, y2, y3, _, _⟩ := CELLS.out w6 hIR.nb.below
                                  exact ⟨⟨y2, y3⟩, hIR.nb.cells.2, (LST.out w6 (HBW25.out.trans (hb.mono hwl22))).1, hIR.nb.cells.1.1⟩)
                                go_wp2_with fail
                                refine region_free (by kernel_rfl) (by kernel_rfl) 178 rfl [119, 120, 121, 122, 123, 124, 125, 126, 127, 128, 118, 129, 130, 131, 16] [9, 14, 15] [(128, 9)]
                                  [(119, [], fun _ => .agg #[.int .i64 x.id, .int .i64 x.len, .int .i64 x.gen, .slice Ap np cp]), (120, [], fun _ => .pointer (some ⟨w.heap.size, 2, none⟩)), (121, [], fun _ => .agg #[.slice A0 n0 c0, .slice A1 n1 c1]), (122, [], fun _ => .slice (some ⟨bl, ol, none⟩) nl cl), (123, [], fun _ => .int .i64 (kc : Int)), (124, [], fun _ => .pointer (some ⟨bl, ol + kc, none⟩)), (125, [], fun _ => .slice Al ql cq'), (126, [], fun _ => .pointer (some ⟨g5, 0, none⟩)), (127, [], fun _ => .int .i64 s.K), (118, [9], fun l => l.getD 0 undef), (129, [9], fun l => tupAt 0 (l.getD 0 undef)), (130, [9], fun l => tupAt 1 (l.getD 0 undef)), (131, [9], fun l => tupAt 2 (l.getD 0 undef)), (16, [9], fun l => tupAt 2 (l.getD 0 undef))]
                                  [[], [], [], [], [], [], [], [], [], [14]] [[], [], [], [], [], [], [], [], [], [], [], [], [], [], [9], [9, 14]] [[], [], [120], [], [], [122, 123], [124], [], [126], [119, 121, 125, 127], [128], [118], [118], [118], [129], [130], [131]]
                                  (WdT w25 w22.heap.size (R25 RR w25) (fun _ => True) 14 15 (stT w22.heap.size 9 0) (stT (w22.heap.size + 1) 9 1)) (by kernel_rfl) .init ⟨?_, ?_, ?_, ?_, ?_, ?_, ?_, ?_, ?_, ?_, ?_, ?_, ?_, ?_, ?_, ?_, ?_, trivial⟩ ?_
                                -- FAST17 cdot
                                · (refine OpH.rd rfl rfl (fun ρ us w6 ho ht hc hl hsrc hW => ?_); have e6 := (ho 6 rfl).trans (show _ = (.pointer (some ⟨g6, 0, none⟩) : Value) from rfl); obtain ⟨_, ⟨z0, z1, z2, z3⟩, _⟩ := CEL2.out us w6 hW; clear ht ho; simp only [execOp, e6]; go_simp; try rfl)
                                · (refine OpH.rd rfl rfl (fun ρ us w6 ho ht hc hl hsrc hW => ?_); have e1 := (ho 1 rfl).trans (show _ = (.pointer (some ⟨w.heap.size, 0, none⟩) : Value) from rfl); clear ht ho; simp only [execOp, e1]; go_simp; try rfl)
                                · (refine OpH.rd rfl rfl (fun ρ us w6 ho ht hc hl hsrc hW => ?_); have e120 := (ht 120 (by decide)).trans (show _ = (.pointer (some ⟨w.heap.size, 2, none⟩) : Value) from rfl); obtain ⟨⟨y2, y3⟩, _⟩ := CEL2.out us w6 hW; clear ht ho; simp only [execOp, e120]; go_simp; try rfl)
                                · (refine OpH.rd rfl rfl (fun ρ us w6 ho ht hc hl hsrc hW => ?_); have e8 := (ho 8 rfl).trans (show _ = (.slice (some ⟨bl, ol, none⟩) nl cl : Value) from rfl); clear ht ho; simp only [execOp, e8]; go_simp; try rfl)
                                · (refine OpH.rd rfl rfl (fun ρ us w6 ho ht hc hl hsrc hW => ?_); have e9 := (ho 9 rfl).trans (show _ = (.int .i64 (kc : Int) : Value) from rfl); clear ht ho; simp only [execOp, e9]; go_simp; try rfl)
                                · (refine OpH.rd rfl rfl (fun ρ us w6 ho ht hc hl hsrc hW => ?_); have e122 := (ht 122 (by decide)).trans (show _ = (.slice (some ⟨bl, ol, none⟩) nl cl : Value) from rfl); have e123 := (ht 123 (by decide)).trans (show _ = (.int .i64 (kc : Int) : Value) from rfl); clear ht ho; simp only [execOp, e122, e123]; go_simp; try rfl)
                                · (refine OpH.rd rfl rfl (fun ρ us w6 ho ht hc hl hsrc hW => ?_); have e124 := (ht 124 (by decide)).trans (show _ = (.pointer (some ⟨bl, ol + kc, none⟩) : Value) from rfl); obtain ⟨_, _, y0, _⟩ := CEL2.out us w6 hW; clear ht ho; simp only [execOp, e124]; go_simp; try rfl)
                                · (refine OpH.rd rfl rfl (fun ρ us w6 ho ht hc hl hsrc hW => ?_); have e5 := (ho 5 rfl).trans (show _ = (.pointer (some ⟨g5, 0, none⟩) : Value) from rfl); clear ht ho; simp only [execOp, e5]; go_simp; try rfl)
                                · (refine OpH.rd rfl rfl (fun ρ us w6 ho ht hc hl hsrc hW => ?_); have e126 := (ht 126 (by decide)).trans (show _ = (.pointer (some ⟨g5, 0, none⟩) : Value) from rfl); obtain ⟨_, _, _, k0⟩ := CEL2.out us w6 hW; clear ht ho; simp only [execOp, e126]; go_simp; try rfl)
                                · refine OpH.wr rfl (fun Z us w6 ho ht hni hlim hreq hW K hK => ?_)
                                  have e119 := (ht 119 (by decide)).trans (show _ = (.agg #[.int .i64 x.id, .int .i64 x.len, .int .i64 x.gen, .slice Ap np cp] : Value) from rfl)
                                  have e121 := (ht 121 (by decide)).trans (show _ = (.agg #[.slice A0 n0 c0, .slice A1 n1 c1] : Value) from rfl)
                                  have e125 := (ht 125 (by decide)).trans (show _ = (.slice Al ql cq' : Value) from rfl)
                                  have e127 := (ht 127 (by decide)).trans (show _ = (.int .i64 s.K : Value) from rfl)
                                  have hn := hlim 14 (by decide)
                                  have hb6 := (hW.early hn).1
                                  have hcl := HCL.out w6 hb6
                                  refine step_call rfl 52 #[.tmp 119, .tmp 121, .tmp 125, .tmp 127] #[79, 62, 30, 3] rfl Try.func52 (by kernel_rfl) (by kernel_rfl) #[.agg #[.int .i64 x.id, .int .i64 x.len, .int .i64 x.gen, .slice Ap np cp], .agg #[.slice A0 n0 c0, .slice A1 n1 c1], .slice Al ql cq', .int .i64 s.K] (by simp [e119, e121, e125, e127]) (hcl) ?_
                                  rintro e w7 ⟨X, n, c, B, k, d, E0, m0, d0, E1, m1, d1, rfl, t1, t2, t3, t4, hb7⟩
                                  have h6 := hb6.size
                                  exact ⟨_, rfl, hK _ _ (hW.snoc (by decide) (by decide) hn hb7 (fun j v h => R25.all hb7 j v h) (fun _ => ⟨_, _, _, _, _, _, _, _, _, _, _, _, rfl, t1.mono (fun b hb _ => Nat.le_trans h6 hb), t2.mono (fun b hb _ => Nat.le_trans h6 hb), t3.mono (fun b hb _ => Nat.le_trans h6 hb), t4.mono (fun b hb _ => Nat.le_trans h6 hb)⟩))⟩
                                · (refine OpH.rd rfl rfl (fun ρ us w6 ho ht hc hl hsrc hW => ?_); have e128 := (ht 128 (by decide)).trans (show _ = ((us.lookup 9).getD undef : Value) from rfl); clear ht ho; simp only [execOp, e128]; go_simp; try rfl)
                                · refine OpH.rd rfl rfl (fun ρ us w6 ho ht hc hl hsrc hW => ?_)
                                  obtain ⟨v9, W9, l9, r9⟩ := hW.ever (hsrc 9 (by exact (List.mem_singleton.2 rfl : (9 : Nat) ∈ [9]))) (by decide) (by decide)
                                  obtain ⟨X, n, c, B, k, d, E0, m0, d0, E1, m1, d1, rfl, _⟩ := r9 rfl
                                  have e118 := ((ht 118 (by decide)).trans (show _ = (us.lookup 9).getD undef from rfl)).trans (show _ = (.tuple #[.agg #[.int .i64 RR.1.stripe, .slice X n c, .slice B k d], .agg #[.slice E0 m0 d0, .slice E1 m1 d1], .int .i64 RR.2.2] : Value) by rw [l9]; rfl)
                                  change _ = Result.ok (Next.value (tupAt 0 ((us.lookup 9).getD undef))) w6
                                  rw [l9]
                                  clear ht ho hl hsrc hW l9 r9
                                  simp only [execOp, e118]
                                  go_simp
                                  rfl
                                · refine OpH.rd rfl rfl (fun ρ us w6 ho ht hc hl hsrc hW => ?_)
                                  obtain ⟨v9, W9, l9, r9⟩ := hW.ever (hsrc 9 (by exact (List.mem_singleton.2 rfl : (9 : Nat) ∈ [9]))) (by decide) (by decide)
                                  obtain ⟨X, n, c, B, k, d, E0, m0, d0, E1, m1, d1, rfl, _⟩ := r9 rfl
                                  have e118 := ((ht 118 (by decide)).trans (show _ = (us.lookup 9).getD undef from rfl)).trans (show _ = (.tuple #[.agg #[.int .i64 RR.1.stripe, .slice X n c, .slice B k d], .agg #[.slice E0 m0 d0, .slice E1 m1 d1], .int .i64 RR.2.2] : Value) by rw [l9]; rfl)
                                  change _ = Result.ok (Next.value (tupAt 1 ((us.lookup 9).getD undef))) w6
                                  rw [l9]
                                  clear ht ho hl hsrc hW l9 r9
                                  simp only [execOp, e118]
                                  go_simp
                                  rfl
                                · refine OpH.rd rfl rfl (fun ρ us w6 ho ht hc hl hsrc hW => ?_)
                                  obtain ⟨v9, W9, l9, r9⟩ := hW.ever (hsrc 9 (by exact (List.mem_singleton.2 rfl : (9 : Nat) ∈ [9]))) (by decide) (by decide)
                                  obtain ⟨X, n, c, B, k, d, E0, m0, d0, E1, m1, d1, rfl, _⟩ := r9 rfl
                                  have e118 := ((ht 118 (by decide)).trans (show _ = (us.lookup 9).getD undef from rfl)).trans (show _ = (.tuple #[.agg #[.int .i64 RR.1.stripe, .slice X n c, .slice B k d], .agg #[.slice E0 m0 d0, .slice E1 m1 d1], .int .i64 RR.2.2] : Value) by rw [l9]; rfl)
                                  change _ = Result.ok (Next.value (tupAt 2 ((us.lookup 9).getD undef))) w6
                                  rw [l9]
                                  clear ht ho hl hsrc hW l9 r9
                                  simp only [execOp, e118]
                                  go_simp
                                  rfl
                                · refine OpH.wr rfl (fun Z us w6 ho ht hni hlim hreq hW K hK => ?_)
                                  have hE := hW.early hni
                                  obtain ⟨v9, l9, m9⟩ := lookup_mem (hreq 9 (by decide))
                                  obtain ⟨X, n, c, B, k, d, E0, m0, d0, E1, m1, d1, rfl, _⟩ := hE.2.1 9 v9 m9 rfl
                                  have e17 := (ho 17 rfl).trans (show _ = (.pointer (some ⟨w22.heap.size, 0, none⟩) : Value) from rfl)
                                  have e129 := ((ht 129 (by decide)).trans (show _ = tupAt 0 ((us.lookup 9).getD undef) from rfl)).trans (show _ = (.agg #[.int .i64 RR.1.stripe, .slice X n c, .slice B k d] : Value) by rw [l9]; rfl)
                                  have hr := (HNZ5.out.all hE.1).rn
                                  have hst : stT w22.heap.size 9 0 us w6 = setAll w22.heap.size 0 [.int .i64 RR.1.stripe, .slice X n c, .slice B k d] w6 := by unfold stT; rw [l9]; rfl
                                  have hdone := hW.store1 hni (x := undef) trivial (by rw [hst]; exact setAll_below (Nat.le_refl _) _ _ _ (hE.1.mono h2225))
                                  rw [hst] at hdone
                                  have f0 := (cell_of_row w6 _ 0 _ _ _ hr).trans (show _ = some (Value.int .i64 0) from rfl)
                                  have f1 := (cell_of_row w6 _ 1 _ _ _ hr).trans (show _ = some (Value.slice none 0 0) from rfl)
                                  have f2 := (cell_of_row w6 _ 2 _ _ _ hr).trans (show _ = some (Value.slice none 0 0) from rfl)
                                  have f4 := frozen_of_row w6 _ 0 _ _ hr
                                  have f5 := frozen_of_row w6 _ 1 _ _ hr
                                  have f6 := frozen_of_row w6 _ 2 _ _ hr
                                  have HDN := Lib.hid hdone; clear hdone hW hni hlim hreq ho ht hst hr l9 m9 hE
                                  rw [if_pos (by simp [Region.wanted])]
                                  unfold Oper.wp
                                  generalize Z.eval = ρ at *
                                  simp only [execOp, e17, e129]
                                  go_simp
                                  exact hK undef _ HDN.out
                                · refine OpH.wr rfl (fun Z us w6 ho ht hni hlim hreq hW K hK => ?_)
                                  have q9 := hreq 9 (by decide)
                                  obtain ⟨us0, W6, x0, rfl, rfl, hb, hR, hn1, hn2, _, hb1⟩ := hW.mid (hreq 14 (by decide)) hni
                                  obtain ⟨v9, l9, m9⟩ := lookup_mem (before_mid q9 (by decide))
                                  obtain ⟨X, n, c, B, k, d, E0, m0, d0, E1, m1, d1, rfl, _⟩ := hR 9 v9 m9 rfl
                                  have e18 := (ho 18 rfl).trans (show _ = (.pointer (some ⟨w22.heap.size + 1, 0, none⟩) : Value) from rfl)
                                  have e130 := ((ht 130 (by decide)).trans (show _ = tupAt 1 (((us0 ++ [(14, x0)]).lookup 9).getD undef) from rfl)).trans (show _ = (.agg #[.slice E0 m0 d0, .slice E1 m1 d1] : Value) by rw [lookup_mid (by decide), l9]; rfl)
                                  have hr : (stT w22.heap.size 9 0 us0 W6).heap[w22.heap.size + 1]? = some (.cells #[.slice none 0 0, .slice none 0 0] 62 (0, 0)) := by
                                    unfold stT
                                    exact (setAll_other (by omega) _ _ _).trans (HNZ5.out.all hb).rs
                                  have hst : ∀ W, stT (w22.heap.size + 1) 9 1 us0 W = setAll (w22.heap.size + 1) 0 [.slice E0 m0 d0, .slice E1 m1 d1] W := fun W => by unfold stT; rw [l9]; rfl
                                  have hdone := WdT.two (V := w25) (m := w22.heap.size) (R := R25 RR w25) (Pre := fun _ => True) (st1 := (stT w22.heap.size 9 0)) (st2 := (stT (w22.heap.size + 1) 9 1)) (x := x0) (x' := undef) hb hR hn1 hn2 trivial (by rw [hst]; exact setAll_below (Nat.le_succ _) _ _ _ hb1)
                                  rw [hst] at hdone
                                  have HDN := Lib.hid hdone; clear hdone hst hb hR hn1 hn2 hb1 hW hni hlim hreq ho ht q9 l9 m9
                                  generalize stT w22.heap.size 9 0 us0 W6 = W7 at *
                                  have f0 := (cell_of_row W7 _ 0 _ _ _ hr).trans (show _ = some (Value.slice none 0 0) from rfl)
                                  have f1 := (cell_of_row W7 _ 1 _ _ _ hr).trans (show _ = some (Value.slice none 0 0) from rfl)
                                  have f4 := frozen_of_row W7 _ 0 _ _ hr
                                  have f5 := frozen_of_row W7 _ 1 _ _ hr
                                  clear hr
                                  rw [if_pos (by simp [Region.wanted])]
                                  unfold Oper.wp
                                  generalize Z.eval = ρ at *
                                  simp only [execOp, e18, e130]
                                  go_simp
                                  exact hK undef _ HDN.out
                                · (refine OpH.rd rfl rfl (fun ρ us w6 ho ht hc hl hsrc hW => ?_); have e131 := (ht 131 (by decide)).trans (show _ = (tupAt 2 ((us.lookup 9).getD undef) : Value) from rfl); clear ht ho; simp only [execOp, e131]; go_simp; try rfl)
                                -- TSAF
                                · intro us w9 hmem hW
                                  have hBf := hW.below h2225
                                  obtain ⟨us0, W6, x0, x1, rfl, rfl, hb, hR, hn1, hn2, _, _⟩ := hW.last (hmem 15 (by decide)) (by decide)
                                  obtain ⟨v9, l9, m9⟩ := lookup_mem (before_last (hmem 9 (by decide)) (by decide) (by decide))
                                  obtain ⟨X, n, c, B, k, d, E0, m0, d0, E1, m1, d1, rfl, t1, t2, t3, t4⟩ := hR 9 v9 m9 rfl
                                  have hst1 : stT w22.heap.size 9 0 us0 W6 = setAll w22.heap.size 0 [.int .i64 RR.1.stripe, .slice X n c, .slice B k d] W6 := by unfold stT; rw [l9]; rfl
                                  have hst2 : ∀ W, stT (w22.heap.size + 1) 9 1 us0 W = setAll (w22.heap.size + 1) 0 [.slice E0 m0 d0, .slice E1 m1 d1] W := fun W => by unfold stT; rw [l9]; rfl
                                  rw [hst2, hst1] at hBf ⊢
                                  have hnoW := NO.of25 (V := w25) (R := RR) (m := w22.heap.size) h2225 t1 t2 t3 t4 (HNZ5.out.all hb).rn (HNZ5.out.all hb).rs (Nat.le_refl _) (Nat.le_succ _)
                                  simp only [putAll, List.map_cons, List.map_nil, List.foldl_cons, List.foldl_nil, Act.put, List.setIfInBounds_toArray, List.set_cons_succ, List.set_cons_zero]
                                  generalize hsv : slotAt _ _ _ = sv
                                  have hs16 : sv 16 = .int .i64 RR.2.2 := by rw [← hsv]; show tupAt 2 (((us0 ++ [(14, x0)] ++ [(15, x1)]).lookup 9).getD undef) = _; rw [lookup_last (by decide) (by decide), l9]; rfl
                                  rw [hs16]
                                  clear hsv hs16 hst1 hst2 hb hR hn1 hn2 hW hmem l9 m9 t1 t2 t3 t4 CEL2
                                  generalize setAll (w22.heap.size + 1) 0 [.slice E0 m0 d0, .slice E1 m1 d1] (setAll w22.heap.size 0 [.int .i64 RR.1.stripe, .slice X n c, .slice B k d] W6) = w99 at *
                                  have HNW := Lib.hid hnoW; clear hnoW
                                  have HBf := Lib.hid (HB225.out.trans hBf); clear hBf
                                  go_wp2
                                  go_meet
                                  case rel => exact ⟨rfl, HBf, _, _, _, _, _, _, _, _, _, _, _, _, _, HNW⟩
                            case rest =>
                              rename World => w26
                              obtain ⟨rfl, HB26, m', X, n, c, B, k, d, E0, m0, d0, E1, m1, d1, HNW⟩ := hcut
                              have HIR5 := Lib.hid (HIR2.out.all HB26.out)
                              have HNO5 := Lib.hid (HNO.out.all HB26.out)
                              have HBW26 := Lib.hid (HBW22.out.trans (HB26.out.mono HBW22.out.size))
                              have KEEP := Lib.hid (fun V (hV : Below w26.heap.size w26 V) => And.intro (HIR5.out.all hV) (And.intro (HNO5.out.all hV) (And.intro (HNW.out.all hV) (And.intro (LST.out V (HBW26.out.trans (hV.mono HBW26.out.size))) (HR.out V (HAL.out _ (HIR5.out.all hV).nb.below))))))
                              clear HIR2 HIR4 HIR5 HNO5 HNZ5 HBW25 HBW22 HB225 HB26 HBB HRR HMAY HSB
                              go_wp2_with fail
                              refine num15_c.mono ?_
                              rintro e w27 ⟨rfl, hb27⟩
                              have HB27 := Lib.hid hb27; clear hb27
                              obtain ⟨hir, hno, hnw, hls, hA⟩ := KEEP.out w27 HB27.out
                              have hq := EqNeed_c (w := w27) (x := RR.1) (y := RR.1) hno.i hno.t hnw.i hnw.t
                              rw [decide_eq_true (rfl : RR.1 = RR.1)] at hq
                              have HQ := Lib.hid hq; clear hq
                              obtain ⟨⟨a0, a1, a2⟩, _⟩ := hno.cells
                              obtain ⟨⟨b0, b1, b2⟩, _⟩ := hnw.cells
                              clear hir hno hnw hls hA
                              go_wp2_with fail
                              refine HQ.out.mono ?_
                              clear HQ a0 a1 a2 b0 b1 b2
                              rintro e w28 ⟨rfl, hb28⟩
                              have HB28 := Lib.hid (HB27.out.trans (hb28.mono HB27.out.size)); clear hb28 HB27
                              obtain ⟨hir, hno, hnw, hls, hA⟩ := KEEP.out w28 HB28.out
                              have hq := EqSlots_c (w := w28) (x := RR.2.1) (y := RR.2.1) hno.l hno.f hnw.l hnw.f
                              rw [decide_eq_true (rfl : RR.2.1 = RR.2.1)] at hq
                              have HQ := Lib.hid hq; clear hq
                              obtain ⟨_, a0, a1⟩ := hno.cells
                              obtain ⟨_, b0, b1⟩ := hnw.cells
                              clear hir hno hnw hls hA
                              go_wp2_with fail
                              refine HQ.out.mono ?_
                              clear HQ a0 a1 b0 b1
                              rintro e w29 ⟨rfl, hb29⟩
                              have HB29 := Lib.hid (HB28.out.trans (hb29.mono HB28.out.size)); clear hb29 HB28
                              obtain ⟨hir, hno, hnw, hls, hA⟩ := KEEP.out w29 HB29.out
                              have hq := EqStripe_c (w := w29) (x := x) (y := x) hir.sp hir.place
                              rw [decide_eq_true (rfl : x = x)] at hq
                              have HQ := Lib.hid hq; clear hq
                              obtain ⟨⟨a0, a1, a2, a3⟩, _⟩ := hir.in_
                              obtain ⟨_, b0, b1, b2, b3⟩ := hir.nb.cells
                              clear hir hno hnw hls hA
                              go_wp2_with fail
                              refine HQ.out.mono ?_
                              clear HQ a0 a1 a2 a3 b0 b1 b2 b3
                              rintro e w30 ⟨rfl, hb30⟩
                              have HB30 := Lib.hid (HB29.out.trans (hb30.mono HB29.out.size)); clear hb30 HB29
                              obtain ⟨hir, hno, hnw, hls, hA⟩ := KEEP.out w30 HB30.out
                              have hq := EqSlots_c (w := w30) (x := p.y) (y := p.y) hir.s0 hir.s1 hA.y0 hA.y1
                              rw [decide_eq_true (rfl : p.y = p.y)] at hq
                              have HQ := Lib.hid hq; clear hq
                              obtain ⟨_, a0, a1⟩ := hir.in_
                              obtain ⟨_, _, y2, y3, _, _⟩ := CELLS.out w30 hir.nb.below
                              clear hir hno hnw hls hA
                              go_wp2_with fail
                              refine HQ.out.mono ?_
                              clear HQ a0 a1 y2 y3
                              rintro e w31 ⟨rfl, hb31⟩
                              have HB31 := Lib.hid (HB30.out.trans (hb31.mono HB30.out.size)); clear hb31 HB30
                              obtain ⟨hir, hno, hnw, hls, hA⟩ := KEEP.out w31 HB31.out
                              have hq := EqBools_c (w := w31) (xs := lk) (ys := lk) hir.sl hls.2
                              rw [decide_eq_true (rfl : lk = lk)] at hq
                              have HQ := Lib.hid hq; clear hq
                              have a0 := hls.1
                              clear hir hno hnw hls hA
                              go_wp2_with fail
                              refine HQ.out.mono ?_
                              clear HQ a0
                              rintro e w32 ⟨rfl, hb32⟩
                              have HB32 := Lib.hid (HB31.out.trans (hb32.mono HB31.out.size)); clear hb32 HB31
                              obtain ⟨hir, hno, hnw, hls, hA⟩ := KEEP.out w32 HB32.out
                              have HQ := Lib.hid (spoil_c hno.l hno.f)
                              obtain ⟨_, a0, a1⟩ := hno.cells
                              have HIR6 := Lib.hid hir
                              have hlo : w20.heap.size ≤ w32.heap.size := hir.lo
                              clear hir hno hnw hls hA
                              go_wp2_with fail
                              refine HQ.out.mono ?_
                              clear HQ a0 a1
                              rintro e w33 ⟨⟨v33, rfl⟩, hT⟩
                              have hb33 : Below w20.heap.size w32 w33 := ⟨hT.os, hT.tape, hT.output, hT.size, fun b hb => hT.block b (by omega) (fun h => by omega)⟩
                              have HIR7 := Lib.hid (HIR6.out.keep hb33)
                              have HBW33 := Lib.hid ((HBW26.out.trans (HB32.out.mono HBW26.out.size)).trans (hb33.mono hwl20))
                              have hA := HR.out w33 (HAL.out _ HIR7.out.nb.below)
                              have hq := EqSlots_c (w := w33) (x := p.y) (y := p.y) HIR7.out.s0 HIR7.out.s1 hA.y0 hA.y1
                              rw [decide_eq_true (rfl : p.y = p.y)] at hq
                              have HQ := Lib.hid hq; clear hq hA
                              obtain ⟨_, a0, a1⟩ := HIR7.out.in_
                              obtain ⟨_, _, y2, y3, _, _⟩ := CELLS.out w33 HIR7.out.nb.below
                              clear hT hb33 HIR6 HB32
                              go_wp2_with fail
                              refine HQ.out.mono ?_
                              clear HQ a0 a1 y2 y3
                              rintro e w34 ⟨rfl, hb34⟩
                              have HBend := Lib.hid (HBl.out.trans ((HBW33.out.trans (hb34.mono HBW33.out.size)).mono HBl.out.size)); clear hb34
                              go_wp2
                              exact ⟨⟨kc + 1, by omega, by go_num, HBend⟩, by simp [intOf]; omega⟩
                      · have HBz := Lib.hid (HNC.out.all HBl.out).below
                        clear HNC HPC HLC HLL HLN HMAY HSH HXI HSI HP3
                        go_wp2
                        exact ⟨⟨kb + 1, by omega, by go_num, HBz⟩, by simp [intOf]; omega⟩
              · go_wp2
                exact ⟨⟨ka + 1, by omega, by go_num, HBi⟩, by simp [intOf]; omega⟩
            · go_wp2
              exact ⟨⟨ka + 1, by omega, by go_num, HBi⟩, by simp [intOf]; omega⟩
        · go_wp2_with fail
          refine wakes15_c.mono ?_
          clear y0 y1 y2 y3 y4 y5
          rintro e w90 ⟨rfl, hb90⟩
          have HBf := Lib.hid (HAL.out _ (HBo.out.trans (hb90.mono HBo.out.size)))
          go_wp2
          go_ret
          exact ⟨rfl, HBf.out⟩
      · go_wp2_with fail
        refine wakes15_c.mono ?_
        clear y0 y1 y2 y3 y4 y5
        rintro e w90 ⟨rfl, hb90⟩
        have HBf := Lib.hid (HAL.out _ (HBo.out.trans (hb90.mono HBo.out.size)))
        go_wp2
        go_ret
        exact ⟨rfl, HBf.out⟩
end Go.Proofs.Ytfccghfcilccfaa
