/- silolaw18.FitText answers true. Printed by gen_m3.py. -/
import Derived.Test.YtfccghfcilccfaaR14
import Derived.Deep.CutBlock
import Derived.Deep.Cut
namespace Go.Proofs.Ytfccghfcilccfaa
open Go.RowKit Go.Silo

set_option maxRecDepth 100000 in
set_option maxHeartbeats 16000000 in
theorem FitText_c {S : Nat → Prop} {w : World} {p : AskF} {As A0 A1 : Option Addr} {ns cs n0 c0 n1 c1 : Nat} (hB : AskFB p) (h : AskFR w S p As ns cs A0 n0 c0 A1 n1 c1) :
    Calls Try.prog 7 #[.agg #[.slice As ns cs, .slice A0 n0 c0, .slice A1 n1 c1, .int .i64 p.n]] w (RetV (.bool true) w) := by
  have HR := Lib.hid (fun W (hW : Below w.heap.size w W) => h.all hW)
  have HLS := Lib.hid h.s.len
  have HNI := Lib.hid h.n
  have hrow := heap_alloc_new w (.cells #[.slice As ns cs, .slice A0 n0 c0, .slice A1 n1 c1, .int .i64 p.n] 64)
  have hz : w.heap.size < (w.alloc (.cells #[.slice As ns cs, .slice A0 n0 c0, .slice A1 n1 c1, .int .i64 p.n] 64)).heap.size := by simp
  have hal : Below w.heap.size w (w.alloc (.cells #[.slice As ns cs, .slice A0 n0 c0, .slice A1 n1 c1, .int .i64 p.n] 64)) := (by repeat' (first | (with_reducible exact Below.refl _ _) | (with_reducible refine Below.alloc ?_ ?_ _) | (with_reducible refine Below.drew ?_) | (with_reducible refine below_drewN ?_ _) | (with_reducible refine Below.setCell ?_ ?_ _) | (refine via ?_ (by with_reducible assumption) ?_) | (refine via ?_ (below_ext _ _) ?_) | go_size))
  have HHV := Lib.hid (Heavy18_c hB (h.all hal)); clear hB h
  go_enter Try.func7, Try.ntmps7
  go_upto_region 1 with (fail)
  generalize (w.alloc (.cells #[.slice As ns cs, .slice A0 n0 c0, .slice A1 n1 c1, .int .i64 p.n] 64)) = W0 at *
  have HAL := Lib.hid (fun W (hW : Below W0.heap.size W0 W) => hal.trans (hW.mono (Nat.le_of_lt hz))); clear hal
  have y0 := cell_of_row _ _ 0 _ _ _ hrow
  have y1 := cell_of_row _ _ 1 _ _ _ hrow
  have y2 := cell_of_row _ _ 2 _ _ _ hrow
  have y3 := cell_of_row _ _ 3 _ _ _ hrow
  have CELLS : Hid (∀ W, Below W0.heap.size W0 W → W.cell? ⟨w.heap.size, 0, none⟩ = some (.slice As ns cs) ∧ W.cell? ⟨w.heap.size, 1, none⟩ = some (.slice A0 n0 c0) ∧ W.cell? ⟨w.heap.size, 2, none⟩ = some (.slice A1 n1 c1) ∧ W.cell? ⟨w.heap.size, 3, none⟩ = some (.int .i64 p.n)) := Lib.hid (fun W hW => by
    have r := (hW.block _ hz).trans hrow
    exact ⟨cell_of_row W _ 0 _ _ _ r, cell_of_row W _ 1 _ _ _ r, cell_of_row W _ 2 _ _ _ r, cell_of_row W _ 3 _ _ _ r⟩)
  clear hrow
  go_wp2_with fail
  refine HHV.out.mono ?_
  clear y0 y1 y2 y3
  rintro e w1 ⟨v, rfl, hb1, hlight⟩
  have HB1 := Lib.hid hb1; clear hb1
  cases v with
  | true =>
    go_wp2
    go_ret
    exact ⟨by trivial, HAL.out _ HB1.out⟩
  | false =>
    have HLT := Lib.hid (hlight rfl); clear hlight
    go_wp2_with fail
    go_loopw [3] (fun i wr => ∃ k : Nat, k ≤ ns ∧ i = .int .i64 k ∧ Hid (Below W0.heap.size W0 wr)) (fun i _ => ns - (intOf i).toNat)
    case atStart => exact ⟨0, Nat.zero_le _, rfl, HB1⟩
    case round =>
      rename World => wo
      clear HB1
      obtain ⟨ka, hka, rfl, HBo⟩ := hrel
      obtain ⟨y0, y1, y2, y3⟩ := CELLS.out wo HBo.out
      have FIN : ka < ns ∧ ka < 4 ∨ ka < ns ∧ ¬ ka < 4 ∨ ¬ ka < ns := by omega
      rcases FIN with ⟨hlt, hlt4⟩ | ⟨hlt, hlt4⟩ | hlt
      · skip
        have hns : ns ≤ 50 := by have := HLT.out.1; have := HLS.out; omega
        obtain ⟨bs, os, rfl, _, hbls, j1, j2, j3, q0, q1, q2, _⟩ := (HR.out wo (HAL.out _ HBo.out)).s.shape_at hlt
        generalize p.s.getD ka default = s at *
        clear j1 j2 j3
        go_upto_region 7 with (fail)
        clear q0 q1 q2 y0 y1 y2 y3
        have hbrow := heap_alloc_new wo (.cells #[.int .i64 s.K, .int .i64 s.M, .int .i64 s.size] 23)
        have hblt : wo.heap.size < (wo.alloc (.cells #[.int .i64 s.K, .int .i64 s.M, .int .i64 s.size] 23)).heap.size := by simp
        have HBb := Lib.hid (HBo.out.trans (((Below.refl _ wo).alloc (Nat.le_refl _) (.cells #[.int .i64 s.K, .int .i64 s.M, .int .i64 s.size] 23)).mono HBo.out.size))
        generalize wo.alloc (.cells #[.int .i64 s.K, .int .i64 s.M, .int .i64 s.size] 23) = wb at *
        generalize wo.heap.size = g4 at *
        have ROW4 := Lib.hid (fun V (hV : Below wb.heap.size wb V) => (show V.cell? ⟨g4, 0, none⟩ = some (.int .i64 s.K) ∧ V.cell? ⟨g4, 1, none⟩ = some (.int .i64 s.M) ∧ V.cell? ⟨g4, 2, none⟩ = some (.int .i64 s.size) from by
          have r := (hV.block _ hblt).trans hbrow
          exact ⟨cell_of_row V _ 0 _ _ _ r, cell_of_row V _ 1 _ _ _ r, cell_of_row V _ 2 _ _ _ r⟩))
        clear hbrow hblt
        obtain ⟨y0, y1, y2, y3⟩ := CELLS.out wb HBb.out
        obtain ⟨k0, k1, k2⟩ := ROW4.out wb (Below.refl _ _)
        have hmay : ∃ may : Bool, may = (shapeOk s && slotsOkB p.x) := ⟨_, rfl⟩
        obtain ⟨may, hmay⟩ := hmay
        have HMAY := Lib.hid hmay; clear hmay
        have HQ1 := Lib.hid (refShape_c (w := wb) (s := s))
        have HQ2 := Lib.hid (fun V (hV : Below wb.heap.size wb V) => (let hA := HR.out V (HAL.out _ (HBb.out.trans (hV.mono HBb.out.size))); refSlots_c hA.x0 hA.x1))
        rw [show slotsOkB p.x = slotsOkB p.x from rfl] at HQ2
        rw [show decide ((ka : Int) < 4) = true from decide_eq_true (by omega)]
        go_cut [5] from 38 to 44 (fun t V => t = .bool may ∧ Hid (Below wb.heap.size wb V))
        case first =>
          generalize hsq : shapeOk s = sq at *
          have HSQ := Lib.hid hsq; clear hsq
          go_wp2_with fail
          refine HQ1.out.mono ?_
          clear HQ1 k0 k1 k2
          rintro r w5 ⟨rfl, hb5⟩
          have HB5 := Lib.hid hb5; clear hb5
          cases sq with
          | false =>
            have HF : Hid (may = false) := Lib.hid (by rw [HMAY.out]; rfl)
            clear y0 y1 y2 y3
            go_wp2
            go_meet
            case rel => exact ⟨by rw [HF.out], HB5⟩
          | true =>
            have HF : Hid (may = slotsOkB p.x) := Lib.hid (by rw [HMAY.out]; rfl)
            have HQ3 := Lib.hid (HQ2.out w5 HB5.out)
            obtain ⟨y0, y1, y2, y3⟩ := CELLS.out w5 (HBb.out.trans (HB5.out.mono HBb.out.size))
            rw [← HF.out] at HQ3
            go_wp2_with fail
            refine HQ3.out.mono ?_
            clear HQ3 y0 y1 y2 y3
            rintro r w6 ⟨rfl, hb6⟩
            have HB6 := Lib.hid (HB5.out.trans (hb6.mono HB5.out.size)); clear hb6
            go_wp2
            go_meet
            case rel => exact ⟨by trivial, HB6⟩
        case rest =>
          rename World => w8
          obtain ⟨rfl, HB8⟩ := hcut
          clear HQ1 HQ2 y0 y1 y2 y3 k0 k1 k2
          have HW7 := Lib.hid (HBb.out.trans (HB8.out.mono HBb.out.size))
          go_wp2_with fail
          refine region_free (by kernel_rfl) (by kernel_rfl) 168 rfl [45, 46, 47, 48, 49, 50, 51, 52, 53, 6] [4, 7, 8] [(49, 4), (52, 7), (53, 8)]
            [(45, [], fun _ => .pointer (some ⟨w.heap.size, 3, none⟩)), (46, [], fun _ => .int .i64 p.n), (47, [], fun _ => .pointer (some ⟨w.heap.size, 3, none⟩)), (48, [], fun _ => .int .i64 p.n), (50, [], fun _ => .pointer (some ⟨w.heap.size, 3, none⟩)), (51, [], fun _ => .int .i64 p.n), (6, [8], fun l => l.getD 0 undef)]
            [] [[], [], [], [], [], [], [], [], [4, 7]] [[], [45], [], [47], [48], [], [50], [51], [46, 49, 52], [53]]
            (WdB w8 (RT8 p.n w8)) (by kernel_rfl) .init ⟨?_, ?_, ?_, ?_, ?_, ?_, ?_, ?_, ?_, ?_, trivial⟩ ?_
          -- FAST10 cdot
          · (refine OpH.rd rfl rfl (fun ρ us w6 ho ht hc hl hsrc hW => ?_); have e1 := (ho 1 rfl).trans (show _ = (.pointer (some ⟨w.heap.size, 0, none⟩) : Value) from rfl); clear ht ho; simp only [execOp, e1]; go_simp; try rfl)
          · (refine OpH.rd rfl rfl (fun ρ us w6 ho ht hc hl hsrc hW => ?_); have e45 := (ht 45 (by decide)).trans (show _ = (.pointer (some ⟨w.heap.size, 3, none⟩) : Value) from rfl); obtain ⟨y0, y1, y2, y3⟩ := CELLS.out w6 (HW7.out.trans (hW.1.mono HW7.out.size)); clear ht ho; simp only [execOp, e45]; go_simp; try rfl)
          · (refine OpH.rd rfl rfl (fun ρ us w6 ho ht hc hl hsrc hW => ?_); have e1 := (ho 1 rfl).trans (show _ = (.pointer (some ⟨w.heap.size, 0, none⟩) : Value) from rfl); clear ht ho; simp only [execOp, e1]; go_simp; try rfl)
          · (refine OpH.rd rfl rfl (fun ρ us w6 ho ht hc hl hsrc hW => ?_); have e47 := (ht 47 (by decide)).trans (show _ = (.pointer (some ⟨w.heap.size, 3, none⟩) : Value) from rfl); obtain ⟨y0, y1, y2, y3⟩ := CELLS.out w6 (HW7.out.trans (hW.1.mono HW7.out.size)); clear ht ho; simp only [execOp, e47]; go_simp; try rfl)
          · refine OpH.wr rfl (fun Z us w6 ho ht hni hlim hreq hW K hK => ?_)
            have e48 := (ht 48 (by decide)).trans (show _ = (.int .i64 p.n : Value) from rfl)
            have hcst : ∀ v, Z.eval (.const v) = v := fun _ => rfl
            have hcl := WithinZ_c (w := w6) (i := p.n) (n := 60) HNI.out (by omega) (by omega)
            refine step_call rfl 28 #[.tmp 48, .const (.int .i64 60)] #[3, 3] rfl Try.func28 (by kernel_rfl) (by kernel_rfl) #[.int .i64 p.n, .int .i64 60] (by simp [e48, hcst]) (hcl) ?_
            rintro e w7 ⟨rfl, hb7⟩
            exact ⟨_, rfl, hK _ _ (hW.snoc hb7 (fun j v h => RT8.all hb7 j v h) ⟨fun _ => rfl, (fun h => absurd h (by decide)), (fun h => absurd h (by decide))⟩)⟩
          · (refine OpH.rd rfl rfl (fun ρ us w6 ho ht hc hl hsrc hW => ?_); have e1 := (ho 1 rfl).trans (show _ = (.pointer (some ⟨w.heap.size, 0, none⟩) : Value) from rfl); clear ht ho; simp only [execOp, e1]; go_simp; try rfl)
          · (refine OpH.rd rfl rfl (fun ρ us w6 ho ht hc hl hsrc hW => ?_); have e50 := (ht 50 (by decide)).trans (show _ = (.pointer (some ⟨w.heap.size, 3, none⟩) : Value) from rfl); obtain ⟨y0, y1, y2, y3⟩ := CELLS.out w6 (HW7.out.trans (hW.1.mono HW7.out.size)); clear ht ho; simp only [execOp, e50]; go_simp; try rfl)
          · refine OpH.wr rfl (fun Z us w6 ho ht hni hlim hreq hW K hK => ?_)
            have e51 := (ht 51 (by decide)).trans (show _ = (.int .i64 p.n : Value) from rfl)
            have hcst : ∀ v, Z.eval (.const v) = v := fun _ => rfl
            have hcl := WithinZ_c (w := w6) (i := p.n) (n := 2001) HNI.out (by omega) (by omega)
            refine step_call rfl 28 #[.tmp 51, .const (.int .i64 2001)] #[3, 3] rfl Try.func28 (by kernel_rfl) (by kernel_rfl) #[.int .i64 p.n, .int .i64 2001] (by simp [e51, hcst]) (hcl) ?_
            rintro e w7 ⟨rfl, hb7⟩
            exact ⟨_, rfl, hK _ _ (hW.snoc hb7 (fun j v h => RT8.all hb7 j v h) ⟨(fun h => absurd h (by decide)), fun _ => rfl, (fun h => absurd h (by decide))⟩)⟩
          · refine OpH.wr rfl (fun Z us w6 ho ht hni hlim hreq hW K hK => ?_)
            obtain ⟨v4, l4, m4⟩ := lookup_mem (hreq 4 (by decide))
            obtain ⟨v7, l7, m7⟩ := lookup_mem (hreq 7 (by decide))
            obtain rfl := (hW.2 4 v4 m4).1 rfl
            obtain rfl := (hW.2 7 v7 m7).2.1 rfl
            have e46 := (ht 46 (by decide)).trans (show _ = (.int .i64 p.n : Value) from rfl)
            have e49 := ((ht 49 (by decide)).trans (show _ = (us.lookup 4).getD undef from rfl)).trans (show _ = (.int .i64 (withinZ p.n 60) : Value) by rw [l4]; rfl)
            have e52 := ((ht 52 (by decide)).trans (show _ = (us.lookup 7).getD undef from rfl)).trans (show _ = (.int .i64 (withinZ p.n 2001) : Value) by rw [l7]; rfl)
            have hcst : ∀ v, Z.eval (.const v) = v := fun _ => rfl
            have hal : Below w6.heap.size w6 (w6.alloc (.cells #[.int .i64 p.n, .int .i64 0, .int .i64 1, .int .i64 (withinZ p.n 60), .int .i64 (withinZ p.n 2001)] 3)) := (Below.refl _ _).alloc (Nat.le_refl _) _
            have key : ∀ g, g = w6.heap.size → WdB w8 (RT8 p.n w8) (us ++ [(8, .slice (some ⟨g, 0, none⟩) 5 5)]) (w6.alloc (.cells #[.int .i64 p.n, .int .i64 0, .int .i64 1, .int .i64 (withinZ p.n 60), .int .i64 (withinZ p.n 2001)] 3)) := by
              rintro g rfl
              exact hW.snoc hal (fun j v h => RT8.all hal j v h) ⟨(fun h => absurd h (by decide)), (fun h => absurd h (by decide)), fun _ => ⟨_, rfl, hW.1.size, heap_alloc_new _ _⟩⟩
            have KEY := Lib.hid key; clear key hW hni hlim hreq ho ht hal l4 l7 m4 m7
            rw [if_pos (by simp [Region.wanted])]
            unfold Oper.wp
            generalize Z.eval = ρ at *
            simp only [execOp, List.map_toArray, List.map_cons, List.map_nil, hcst, e46, e49, e52]
            go_simp
            exact hK _ _ (KEY.out _ rfl)
          · (refine OpH.rd rfl rfl (fun ρ us w6 ho ht hc hl hsrc hW => ?_); have e53 := (ht 53 (by decide)).trans (show _ = ((us.lookup 8).getD undef : Value) from rfl); clear ht ho; simp only [execOp, e53]; go_simp; try rfl)
          -- TSAF
          · intro us w9 hmem hW
            simp only [putAll, List.map_cons, List.map_nil, List.foldl_cons, List.foldl_nil, Act.put, List.setIfInBounds_toArray, List.set_cons_succ, List.set_cons_zero]
            generalize hsv : slotAt _ _ us = sv
            obtain ⟨v8, l8, m8⟩ := lookup_mem (hmem 8 (by decide))
            obtain ⟨g6, rfl, hg6, hr6⟩ := (hW.2 8 v8 m8).2.2 rfl
            have hq : sv 6 = .slice (some ⟨g6, 0, none⟩) 5 5 := by rw [← hsv]; show (us.lookup 8).getD undef = _; rw [l8]; rfl
            rw [hq]
            have HW9 := Lib.hid (HW7.out.trans (hW.1.mono HW7.out.size))
            have HB9 := Lib.hid (HB8.out.trans (hW.1.mono HB8.out.size))
            clear hsv hq hmem hW l8 m8
            have hr6' : w9.heap[g6]? = some (.cells ((nsL p.n).map (fun x => Value.int .i64 x)).toArray 3 (0, 0)) := hr6
            have HNS := Lib.hid (sl_ints (n := 5) (xs := nsL p.n) rfl (by decide) (nsL_I64 HNI.out) hr6'); clear hr6 hr6'
            go_wp2_with fail
            go_loopw [7] (fun i wr => ∃ k : Nat, k ≤ 5 ∧ i = .int .i64 k ∧ Hid (Below w9.heap.size w9 wr)) (fun i _ => 5 - (intOf i).toNat)
            case atStart => exact ⟨0, Nat.zero_le _, rfl, Lib.hid (Below.refl _ _)⟩
            case round =>
              rename World => wk
              obtain ⟨kk, hkk, rfl, HBk⟩ := hrel
              have HWk := Lib.hid (HW9.out.trans (HBk.out.mono HW9.out.size))
              have HBBk := Lib.hid (HB9.out.trans (HBk.out.mono HB9.out.size))
              by_cases hlk : kk < 5
              · have hns := (HNS.out.all HBk.out)
                obtain ⟨bn, on, e, _, hbln, hN64, hcn, _⟩ := hns.int_at hlk
                injection e with e; injection e with e1 e2 _; subst e1; subst e2
                rw [Nat.zero_add] at hcn
                generalize (nsL p.n).getD kk 0 = N at *
                have HN64 := Lib.hid hN64; clear hN64
                have HNK0 := Lib.hid (fun V (hV : Below wk.heap.size wk V) => (hV.cell (p := ⟨g6, kk, none⟩) hbln).trans hcn); clear hcn hns
                have hA := HR.out wk (HAL.out _ HWk.out)
                have hcp := CopySlots_c hA.x0 hA.x1 (by have := HLT.out.2.1; have := hA.x0.len; omega) (by have := HLT.out.2.2.1; have := hA.x1.len; omega) (fun l hl => by have := HLT.out.2.2.2 l hl; omega)
                have HCP := Lib.hid hcp; clear hcp hA
                obtain ⟨y0, y1, y2, y3⟩ := CELLS.out wk HWk.out
                go_wp2_with fail
                refine HCP.out.mono ?_
                clear HCP y0 y1 y2 y3
                rintro r wj ⟨vs, rfl, ⟨I0, i0, j0, I1, i1, j1, rfl, _, t0, t1⟩, hbj⟩
                go_upto_region 13 with (fail)
                have hal : Below wj.heap.size wj (wj.alloc (.cells #[.slice I0 i0 j0, .slice I1 i1 j1] 62)) := (Below.refl _ _).alloc (Nat.le_refl _) _
                have HIN := Lib.hid (show BX wj.heap.size p.x I0 i0 j0 I1 i1 j1 (wj.alloc (.cells #[.slice I0 i0 j0, .slice I1 i1 j1] 62)) from ⟨heap_alloc_new _ _, (t0.all hal).mono (fun _ _ _ => trivial), (t1.all hal).mono (fun _ _ _ => trivial)⟩)
                have hg8 : wj.heap.size < (wj.alloc (.cells #[.slice I0 i0 j0, .slice I1 i1 j1] 62)).heap.size := by simp
                have hkj := hbj.trans (hal.mono hbj.size)
                generalize (wj.alloc (.cells #[.slice I0 i0 j0, .slice I1 i1 j1] 62)) = w10 at *
                generalize wj.heap.size = g8 at *
                have HKJ := Lib.hid hkj
                have HNK := Lib.hid (fun V (hV : Below w10.heap.size w10 V) => HNK0.out V (hkj.trans (hV.mono hkj.size)))
                have HB10 := Lib.hid (HBBk.out.trans (hkj.mono HBBk.out.size))
                have HW10 := Lib.hid (HWk.out.trans (hkj.mono HWk.out.size))
                have HB9J := Lib.hid (HBk.out.trans (hkj.mono HBk.out.size))
                clear t0 t1 hbj hal hkj HNK0 HWk HBBk
                obtain ⟨TR, hTR⟩ : ∃ r, r = textR s p.x N := ⟨_, rfl⟩
                have HTR := Lib.hid hTR.symm; clear hTR
                go_wp2_with fail
                refine region_free (by kernel_rfl) (by kernel_rfl) 168 rfl [64, 65, 66, 67, 68, 69, 70, 63, 71, 72, 73, 10, 9, 11] [6, 11, 13] [(70, 6), (10, 11)]
                  [(64, [], fun _ => .agg #[.int .i64 s.K, .int .i64 s.M, .int .i64 s.size]), (65, [], fun _ => .agg #[.slice I0 i0 j0, .slice I1 i1 j1]), (66, [], fun _ => .slice (some ⟨g6, 0, none⟩) 5 5), (67, [], fun _ => .int .i64 (kk : Int)), (68, [], fun _ => .pointer (some ⟨g6, kk, none⟩)), (69, [], fun _ => .int .i64 N), (63, [6], fun l => l.getD 0 undef), (71, [6], fun l => tupAt 0 (l.getD 0 undef)), (72, [6], fun l => tupAt 1 (l.getD 0 undef)), (73, [6], fun l => tupAt 2 (l.getD 0 undef)), (9, [6], fun l => tupAt 0 (l.getD 0 undef)), (11, [6], fun l => tupAt 2 (l.getD 0 undef))]
                  [[13], [13], [13], [13], [13], [13], [13], [13], [], [13], [], [13]] [[], [], [], [], [], [], [], [], [], [], [], [], [], [6, 11]] [[], [], [], [], [66, 67], [68], [64, 65, 69], [70], [63], [63], [63], [], [71], [10, 72], [73]]
                  (WdS w10 (RT13 TR w10) 13 (stTB 11 6 1)) (by kernel_rfl) .init ⟨?_, ?_, ?_, ?_, ?_, ?_, ?_, ?_, ?_, ?_, ?_, ?_, ?_, ?_, ?_, trivial⟩ ?_
                -- FAST15 cdot
                · (refine OpH.rd rfl rfl (fun ρ us w6 ho ht hc hl hsrc hW => ?_); have e4 := (ho 4 rfl).trans (show _ = (.pointer (some ⟨g4, 0, none⟩) : Value) from rfl); obtain ⟨k0, k1, k2⟩ := ROW4.out w6 (HB10.out.trans ((hW.early (hl 13 (by decide))).1.mono HB10.out.size)); clear ht ho; simp only [execOp, e4]; go_simp; try rfl)
                · (refine OpH.rd rfl rfl (fun ρ us w6 ho ht hc hl hsrc hW => ?_); have e8 := (ho 8 rfl).trans (show _ = (.pointer (some ⟨g8, 0, none⟩) : Value) from rfl); have hin := HIN.out.all (hW.early (hl 13 (by decide))).1; have z0 := cell_of_row _ _ 0 _ _ _ hin.row; have z1 := cell_of_row _ _ 1 _ _ _ hin.row; clear hin; clear ht ho; simp only [execOp, e8]; go_simp; try rfl)
                · (refine OpH.rd rfl rfl (fun ρ us w6 ho ht hc hl hsrc hW => ?_); have e6 := (ho 6 rfl).trans (show _ = (.slice (some ⟨g6, 0, none⟩) 5 5 : Value) from rfl); clear ht ho; simp only [execOp, e6]; go_simp; try rfl)
                · (refine OpH.rd rfl rfl (fun ρ us w6 ho ht hc hl hsrc hW => ?_); have e7 := (ho 7 rfl).trans (show _ = (.int .i64 (kk : Int) : Value) from rfl); clear ht ho; simp only [execOp, e7]; go_simp; try rfl)
                · (refine OpH.rd rfl rfl (fun ρ us w6 ho ht hc hl hsrc hW => ?_); have e66 := (ht 66 (by decide)).trans (show _ = (.slice (some ⟨g6, 0, none⟩) 5 5 : Value) from rfl); have e67 := (ht 67 (by decide)).trans (show _ = (.int .i64 (kk : Int) : Value) from rfl); clear ht ho; simp only [execOp, e66, e67]; go_simp; try rfl)
                · (refine OpH.rd rfl rfl (fun ρ us w6 ho ht hc hl hsrc hW => ?_); have e68 := (ht 68 (by decide)).trans (show _ = (.pointer (some ⟨g6, kk, none⟩) : Value) from rfl); have z0 := HNK.out w6 (hW.early (hl 13 (by decide))).1; clear ht ho; simp only [execOp, e68]; go_simp; try rfl)
                · refine OpH.wr rfl (fun Z us w6 ho ht hni hlim hreq hW K hK => ?_)
                  have e64 := (ht 64 (by decide)).trans (show _ = (.agg #[.int .i64 s.K, .int .i64 s.M, .int .i64 s.size] : Value) from rfl)
                  have e65 := (ht 65 (by decide)).trans (show _ = (.agg #[.slice I0 i0 j0, .slice I1 i1 j1] : Value) from rfl)
                  have e69 := (ht 69 (by decide)).trans (show _ = (.int .i64 N : Value) from rfl)
                  have hn := hlim 13 (by decide)
                  have hb6 := (hW.early hn).1
                  have hsz6 := hb6.size
                  have hcl := TextA_c (w := w6) (s := s) (n := N) HN64.out (HIN.out.s0.all hb6) (HIN.out.s1.all hb6)
                  rw [HTR.out] at hcl
                  refine step_call rfl 36 #[.tmp 64, .tmp 65, .tmp 69] #[23, 62, 3] rfl Try.func36 (by kernel_rfl) (by kernel_rfl) #[.agg #[.int .i64 s.K, .int .i64 s.M, .int .i64 s.size], .agg #[.slice I0 i0 j0, .slice I1 i1 j1], .int .i64 N] (by simp [e64, e65, e69]) (hcl) ?_
                  rintro e w7 ⟨A, n, c, B0, m0, d0, B1, m1, d1, rfl, ⟨bs, q1, q2, q3⟩, t0, t1, hb7⟩
                  exact ⟨_, rfl, hK _ _ (hW.snoc (by decide) hn hb7 (fun j v h => RT13.all hb7 j v h) ⟨fun _ => ⟨_, _, _, _, _, _, _, _, _, rfl, ⟨bs, q1, q2, q3.mono (fun b hb _ => by have : w6.heap.size ≤ b := hb; omega)⟩, t0.mono (fun b hb _ => by have : w6.heap.size ≤ b := hb; omega), t1.mono (fun b hb _ => by have : w6.heap.size ≤ b := hb; omega)⟩, (fun h => absurd h (by decide))⟩)⟩
                · (refine OpH.rd rfl rfl (fun ρ us w6 ho ht hc hl hsrc hW => ?_); have e70 := (ht 70 (by decide)).trans (show _ = ((us.lookup 6).getD undef : Value) from rfl); clear ht ho; simp only [execOp, e70]; go_simp; try rfl)
                · refine OpH.rd rfl rfl (fun ρ us w6 ho ht hc hl hsrc hW => ?_)
                  obtain ⟨vc, Wc, lc, rc⟩ := hW.ever (hsrc 6 (by exact (List.mem_singleton.2 rfl : (6 : Nat) ∈ [6]))) (by decide)
                  obtain ⟨A, n, c, B0, m0, d0, B1, m1, d1, rfl, _⟩ := rc.1 rfl
                  have es := ((ht 63 (by decide)).trans (show _ = (us.lookup 6).getD undef from rfl)).trans (show _ = (.tuple #[.slice A n c, .agg #[.slice B0 m0 d0, .slice B1 m1 d1], .int .i64 TR.2.2] : Value) by rw [lc]; rfl)
                  change _ = Result.ok (Next.value (tupAt 0 ((us.lookup 6).getD undef))) w6
                  rw [lc]
                  clear ht ho hl hsrc hW lc rc
                  simp only [execOp, es]
                  go_simp
                  rfl
                · refine OpH.rd rfl rfl (fun ρ us w6 ho ht hc hl hsrc hW => ?_)
                  obtain ⟨vc, Wc, lc, rc⟩ := hW.ever (hsrc 6 (by exact (List.mem_singleton.2 rfl : (6 : Nat) ∈ [6]))) (by decide)
                  obtain ⟨A, n, c, B0, m0, d0, B1, m1, d1, rfl, _⟩ := rc.1 rfl
                  have es := ((ht 63 (by decide)).trans (show _ = (us.lookup 6).getD undef from rfl)).trans (show _ = (.tuple #[.slice A n c, .agg #[.slice B0 m0 d0, .slice B1 m1 d1], .int .i64 TR.2.2] : Value) by rw [lc]; rfl)
                  change _ = Result.ok (Next.value (tupAt 1 ((us.lookup 6).getD undef))) w6
                  rw [lc]
                  clear ht ho hl hsrc hW lc rc
                  simp only [execOp, es]
                  go_simp
                  rfl
                · refine OpH.rd rfl rfl (fun ρ us w6 ho ht hc hl hsrc hW => ?_)
                  obtain ⟨vc, Wc, lc, rc⟩ := hW.ever (hsrc 6 (by exact (List.mem_singleton.2 rfl : (6 : Nat) ∈ [6]))) (by decide)
                  obtain ⟨A, n, c, B0, m0, d0, B1, m1, d1, rfl, _⟩ := rc.1 rfl
                  have es := ((ht 63 (by decide)).trans (show _ = (us.lookup 6).getD undef from rfl)).trans (show _ = (.tuple #[.slice A n c, .agg #[.slice B0 m0 d0, .slice B1 m1 d1], .int .i64 TR.2.2] : Value) by rw [lc]; rfl)
                  change _ = Result.ok (Next.value (tupAt 2 ((us.lookup 6).getD undef))) w6
                  rw [lc]
                  clear ht ho hl hsrc hW lc rc
                  simp only [execOp, es]
                  go_simp
                  rfl
                · refine OpH.wr rfl (fun Z us w6 ho ht hni hlim hreq hW K hK => ?_)
                  have hn := hlim 13 (by decide)
                  have hdone := hW.snoc (i := 11) (x := .pointer (some ⟨w6.heap.size, 0, none⟩)) (by decide) hn ((Below.refl _ _).alloc (Nat.le_refl _) (.cells #[.slice none 0 0, .slice none 0 0] 62)) (fun j v h => RT13.all ((Below.refl _ _).alloc (Nat.le_refl _) _) j v h) ⟨(fun h => absurd h (by decide)), fun _ => ⟨_, rfl, (hW.early hn).1.size, heap_alloc_new _ _⟩⟩
                  have HDN := Lib.hid hdone; clear hdone hW hni hlim hreq ho ht hn
                  rw [if_pos (by simp [Region.wanted])]
                  unfold Oper.wp
                  generalize Z.eval = ρ at *
                  simp only [execOp]
                  go_simp
                  exact hK _ _ HDN.out
                · (refine OpH.rd rfl rfl (fun ρ us w6 ho ht hc hl hsrc hW => ?_); have e71 := (ht 71 (by decide)).trans (show _ = (tupAt 0 ((us.lookup 6).getD undef) : Value) from rfl); clear ht ho; simp only [execOp, e71]; go_simp; try rfl)
                · refine OpH.wr rfl (fun Z us w6 ho ht hni hlim hreq hW K hK => ?_)
                  have hE := hW.early hni
                  obtain ⟨vc, lc, mc⟩ := lookup_mem (hreq 6 (by decide))
                  obtain ⟨va, la, ma⟩ := lookup_mem (hreq 11 (by decide))
                  obtain ⟨A, n, c, B0, m0, d0, B1, m1, d1, rfl, _⟩ := (hE.2 6 vc mc).1 rfl
                  obtain ⟨g, rfl, hg, hr⟩ := (hE.2 11 va ma).2 rfl
                  have ep := ((ht 10 (by decide)).trans (show _ = (us.lookup 11).getD undef from rfl)).trans (show _ = (.pointer (some ⟨g, 0, none⟩) : Value) by rw [la]; rfl)
                  have hst : stTB 11 6 1 us w6 = setAll g 0 [.slice B0 m0 d0, .slice B1 m1 d1] w6 := by unfold stTB; rw [la, lc]; rfl
                  have ev := ((ht 72 (by decide)).trans (show _ = tupAt 1 ((us.lookup 6).getD undef) from rfl)).trans (show _ = (.agg #[.slice B0 m0 d0, .slice B1 m1 d1] : Value) by rw [lc]; rfl)
                  have hdone := hW.store hni (x := undef)
                  rw [hst] at hdone
                  have f0 := (cell_of_row w6 _ 0 _ _ _ hr).trans (show _ = some (Value.slice none 0 0) from rfl)
                  have f1 := (cell_of_row w6 _ 1 _ _ _ hr).trans (show _ = some (Value.slice none 0 0) from rfl)
                  have f4 := frozen_of_row w6 _ 0 _ _ hr
                  have f5 := frozen_of_row w6 _ 1 _ _ hr
                  have HDN := Lib.hid hdone; clear hdone hW hni hlim hreq ho ht hst hr lc mc hE
                  rw [if_pos (by simp [Region.wanted])]
                  unfold Oper.wp
                  generalize Z.eval = ρ at *
                  simp only [execOp, ep, ev]
                  go_simp
                  exact hK undef _ HDN.out
                · (refine OpH.rd rfl rfl (fun ρ us w6 ho ht hc hl hsrc hW => ?_); have e73 := (ht 73 (by decide)).trans (show _ = (tupAt 2 ((us.lookup 6).getD undef) : Value) from rfl); clear ht ho; simp only [execOp, e73]; go_simp; try rfl)
                -- TSAF
                · intro us w9' hmem hW
                  obtain ⟨us0, W6, x0, rfl, rfl, hb, hR, hn1⟩ := hW.last (hmem 13 (by decide))
                  obtain ⟨v6, l6, m6⟩ := lookup_mem (before_mid (hmem 6 (by decide)) (by decide))
                  obtain ⟨v11, l11, m11⟩ := lookup_mem (before_mid (hmem 11 (by decide)) (by decide))
                  obtain ⟨A, n, c, B0, m0, d0, B1, m1, d1, rfl, ⟨bs', q1, q2, q3⟩, t0, t1⟩ := (hR 6 v6 m6).1 rfl
                  obtain ⟨g10, rfl, hg10, hr⟩ := (hR 11 v11 m11).2 rfl
                  have hst : stTB 11 6 1 us0 W6 = setAll g10 0 [.slice B0 m0 d0, .slice B1 m1 d1] W6 := by unfold stTB; rw [l11, l6]; rfl
                  rw [hst]
                  have hrow := setAll_2 (a := .slice B0 m0 d0) (b := .slice B1 m1 d1) hr
                  have hT : Turns (fun _ => True) 62 W6 (setAll g10 0 [.slice B0 m0 d0, .slice B1 m1 d1] W6) := turnsAll trivial _ _ _ _ (Turns.refl _ _ _) (shape_of_cells hr)
                  have ck := CK.of_turns hT
                  have hB9 := setAll_below (g := g10) (m := w10.heap.size) hg10 [.slice B0 m0 d0, .slice B1 m1 d1] 0 W6 hb
                  have hq3 := q3.ck (Silo.CKeeps.rowE (by decide)) (by decide) ck
                  have ht0 := t0.ck CKeeps.flat (by decide) ck
                  have ht1 := t1.ck (CKeeps.slE CKeeps.flat (by decide)) (by decide) ck
                  simp only [putAll, List.map_cons, List.map_nil, List.foldl_cons, List.foldl_nil, Act.put, List.setIfInBounds_toArray, List.set_cons_succ, List.set_cons_zero]
                  generalize hsv : slotAt _ _ _ = sv
                  have s9 : sv 9 = .slice A n c := by rw [← hsv]; show tupAt 0 (((us0 ++ [(13, x0)]).lookup 6).getD undef) = _; rw [lookup_mid (by decide), l6]; rfl
                  have s10 : sv 10 = .pointer (some ⟨g10, 0, none⟩) := by rw [← hsv]; show ((us0 ++ [(13, x0)]).lookup 11).getD undef = _; rw [lookup_mid (by decide), l11]; rfl
                  have s11 : sv 11 = .int .i64 TR.2.2 := by rw [← hsv]; show tupAt 2 (((us0 ++ [(13, x0)]).lookup 6).getD undef) = _; rw [lookup_mid (by decide), l6]; rfl
                  rw [s9, s10, s11]
                  clear hsv s9 s10 s11 hst hb hR hn1 hW hmem l6 l11 m6 m11 hr t0 t1 hT ck q3
                  generalize setAll g10 0 [.slice B0 m0 d0, .slice B1 m1 d1] W6 = w13 at *
                  have HBS := Lib.hid (And.intro q1 q2); clear q1 q2
                  have HROWS := Lib.hid hq3; clear hq3
                  have HY := Lib.hid (And.intro hrow (And.intro ht0 ht1)); clear hrow ht0 ht1
                  have HB13 := Lib.hid hB9; clear hB9
                  go_upto_region 17 with (fail)
                  have hal : Below w13.heap.size w13 (w13.alloc (.cells #[.slice none 0 0, .slice none 0 0] 62)) := (Below.refl _ _).alloc (Nat.le_refl _) _
                  have HZ := Lib.hid (heap_alloc_new w13 (.cells #[.slice none 0 0, .slice none 0 0] 62))
                  have hl14 : w13.heap.size < (w13.alloc (.cells #[.slice none 0 0, .slice none 0 0] 62)).heap.size := by simp
                  have h1014 := HB13.out.size
                  generalize (w13.alloc (.cells #[.slice none 0 0, .slice none 0 0] 62)) = w16 at *
                  have HK16 := Lib.hid (HB13.out.trans (hal.mono h1014))
                  have HROW13 := Lib.hid HROWS.out.lt_block
                  have HY13 := Lib.hid (And.intro HY.out.1 (And.intro HY.out.2.1.lt_block HY.out.2.2.lt_block))
                  have hg10 := (Array.getElem?_eq_some_iff.1 HY.out.1).1
                  have HLY := Lib.hid (fun V (hV : Below w13.heap.size w13 V) => And.intro (HROW13.out.all hV) (And.intro ((hV.block _ hg10).trans HY13.out.1) (And.intro (HY13.out.2.1.all hV) (HY13.out.2.2.all hV))))
                  have HBB := Lib.hid hal
                  generalize w13.heap.size = g14 at *
                  clear hal HROWS HY HROW13 HY13
                  obtain ⟨nb, hnb⟩ : ∃ nb, nb = decide (0 ≤ N ∧ N ≤ 2000) := ⟨_, rfl⟩
                  have HNB := Lib.hid hnb; clear hnb
                  go_cut [81] from 74 to 81 (fun t V => t = .bool (may && nb) ∧ Hid (Below w16.heap.size w16 V))
                  case first =>
                    have HMAY2 := HMAY
                    cases may with
                    | false =>
                      go_wp2
                      go_meet
                      case rel => exact ⟨by trivial, Lib.hid (Below.refl _ _)⟩
                    | true =>
                      have z0 := HNK.out w16 HK16.out
                      have hnum := Num_c (w := w16) (n := N) (m := 2000)
                      rw [← HNB.out] at hnum
                      have HNUM := Lib.hid hnum; clear hnum
                      go_wp2_with fail
                      refine HNUM.out.mono ?_
                      clear HNUM z0
                      rintro r w17 ⟨rfl, hb17⟩
                      have HB17 := Lib.hid hb17; clear hb17
                      go_wp2
                      go_meet
                      case rel => exact ⟨by trivial, HB17⟩
                  case rest =>
                    rename World => w17
                    obtain ⟨rfl, HB170⟩ := hcut
                    have HNIL := Lib.hid (fun (h : TR = ([], ⟨[], []⟩, 1)) => (show BX g14 TR.2.1 none 0 0 none 0 0 w17 ∧ Sl true 71 (slE true 104 slotE) w17 (fun b => g14 ≤ b) none 0 0 TR.1 from by
                      rw [h]; exact ⟨⟨(HB170.out.block _ hl14).trans HZ.out, Sl.nil_ (by decide), Sl.nil_ (by decide)⟩, Sl.nil_ (by decide)⟩))
                    have h17 : g14 < w17.heap.size := by have := HB170.out.size; omega
                    have HZ17 := Lib.hid ((HB170.out.block _ hl14).trans HZ.out)
                    have HK17 := Lib.hid (HK16.out.trans (HB170.out.mono HK16.out.size))
                    have HB17 := Lib.hid (HB170.out.mono (Nat.le_of_lt hl14))
                    clear HB170
                    obtain ⟨bb, hbb⟩ : ∃ bb, bb = (may && nb) := ⟨_, rfl⟩
                    rw [← hbb]
                    have HBQ := Lib.hid hbb; clear hbb
                    go_upto_if 81 with (fail)
                    go_cut [12, 13] from 82 to 93 (fun a b V => a = .int .i64 TR.2.2 ∧ Hid (Below g14 w16 V) ∧ ∃ Wn wn cw D0 e0 f0 D1 e1 f1, b = .slice Wn wn cw ∧ Hid (BX g14 TR.2.1 D0 e0 f0 D1 e1 f1 V ∧ Sl true 71 (slE true 104 slotE) V (fun b => g14 ≤ b) Wn wn cw TR.1))
                    case first =>
                      cases bb with
                      | false =>
                        have HT : Hid (TR = ([], ⟨[], []⟩, 1)) := Lib.hid (by
                          rw [← HTR.out]
                          refine textR_bad (fun h => ?_)
                          have h1 := HMAY.out
                          have h2 := HNB.out
                          rw [h.1, h.2.1] at h1
                          rw [decide_eq_true (And.intro h.2.2.1 h.2.2.2)] at h2
                          have h3 := HBQ.out
                          rw [h1, h2] at h3
                          cases h3)
                        go_wp2
                        go_meet
                        case rel => exact ⟨by rw [HT.out], HB17, none, 0, 0, none, 0, 0, none, 0, 0, rfl, Lib.hid (HNIL.out HT.out)⟩
                      | true =>
                        have hbb : may = true ∧ nb = true := by simpa using HBQ.out.symm
                        have hnb := of_decide_eq_true (HNB.out.symm.trans hbb.2)
                        have hmm : shapeOk s = true ∧ slotsOkB p.x = true := by simpa using HMAY.out.symm.trans hbb.1
                        have HGD := Lib.hid (And.intro hmm.1 (And.intro (slotsOk_of hmm.2) hnb)); clear hnb hmm hbb
                        clear HNIL
                        go_wp2_with fail
                        refine region_free (by kernel_rfl) (by kernel_rfl) 168 rfl [83, 84, 85, 86, 87, 88, 89, 90, 82, 91, 92, 93, 13, 12] [7, 13] [(90, 7)]
                          [(83, [], fun _ => .agg #[.int .i64 s.K, .int .i64 s.M, .int .i64 s.size]), (84, [], fun _ => .pointer (some ⟨w.heap.size, 1, none⟩)), (85, [], fun _ => .agg #[.slice A0 n0 c0, .slice A1 n1 c1]), (86, [], fun _ => .slice (some ⟨g6, 0, none⟩) 5 5), (87, [], fun _ => .int .i64 (kk : Int)), (88, [], fun _ => .pointer (some ⟨g6, kk, none⟩)), (89, [], fun _ => .int .i64 N), (82, [7], fun l => l.getD 0 undef), (91, [7], fun l => tupAt 0 (l.getD 0 undef)), (92, [7], fun l => tupAt 1 (l.getD 0 undef)), (93, [7], fun l => tupAt 2 (l.getD 0 undef)), (13, [7], fun l => tupAt 0 (l.getD 0 undef)), (12, [7], fun l => tupAt 2 (l.getD 0 undef))]
                          [[13], [13], [13], [13], [13], [13], [13], [13], [13], [], [13]] [[], [], [], [], [], [], [], [], [], [], [], [], [], [7]] [[], [], [84], [], [], [86, 87], [88], [83, 85, 89], [90], [82], [82], [82], [91], [92], [93]]
                          (WdS w17 (RT18 TR w17) 13 (stT g14 7 1)) (by kernel_rfl) .init ⟨?_, ?_, ?_, ?_, ?_, ?_, ?_, ?_, ?_, ?_, ?_, ?_, ?_, ?_, ?_, trivial⟩ ?_
                        -- FAST15 cdot
                        · (refine OpH.rd rfl rfl (fun ρ us w6 ho ht hc hl hsrc hW => ?_); have e4 := (ho 4 rfl).trans (show _ = (.pointer (some ⟨g4, 0, none⟩) : Value) from rfl); obtain ⟨k0, k1, k2⟩ := ROW4.out w6 (HB10.out.trans ((HK17.out.trans ((hW.early (hl 13 (by decide))).1.mono HK17.out.size)).mono HB10.out.size)); clear ht ho; simp only [execOp, e4]; go_simp; try rfl)
                        · (refine OpH.rd rfl rfl (fun ρ us w6 ho ht hc hl hsrc hW => ?_); have e1 := (ho 1 rfl).trans (show _ = (.pointer (some ⟨w.heap.size, 0, none⟩) : Value) from rfl); clear ht ho; simp only [execOp, e1]; go_simp; try rfl)
                        · (refine OpH.rd rfl rfl (fun ρ us w6 ho ht hc hl hsrc hW => ?_); have e84 := (ht 84 (by decide)).trans (show _ = (.pointer (some ⟨w.heap.size, 1, none⟩) : Value) from rfl); obtain ⟨y0, y1, y2, y3⟩ := CELLS.out w6 (HW10.out.trans ((HK17.out.trans ((hW.early (hl 13 (by decide))).1.mono HK17.out.size)).mono HW10.out.size)); clear ht ho; simp only [execOp, e84]; go_simp; try rfl)
                        · (refine OpH.rd rfl rfl (fun ρ us w6 ho ht hc hl hsrc hW => ?_); have e6 := (ho 6 rfl).trans (show _ = (.slice (some ⟨g6, 0, none⟩) 5 5 : Value) from rfl); clear ht ho; simp only [execOp, e6]; go_simp; try rfl)
                        · (refine OpH.rd rfl rfl (fun ρ us w6 ho ht hc hl hsrc hW => ?_); have e7 := (ho 7 rfl).trans (show _ = (.int .i64 (kk : Int) : Value) from rfl); clear ht ho; simp only [execOp, e7]; go_simp; try rfl)
                        · (refine OpH.rd rfl rfl (fun ρ us w6 ho ht hc hl hsrc hW => ?_); have e86 := (ht 86 (by decide)).trans (show _ = (.slice (some ⟨g6, 0, none⟩) 5 5 : Value) from rfl); have e87 := (ht 87 (by decide)).trans (show _ = (.int .i64 (kk : Int) : Value) from rfl); clear ht ho; simp only [execOp, e86, e87]; go_simp; try rfl)
                        · (refine OpH.rd rfl rfl (fun ρ us w6 ho ht hc hl hsrc hW => ?_); have e88 := (ht 88 (by decide)).trans (show _ = (.pointer (some ⟨g6, kk, none⟩) : Value) from rfl); have z0 := HNK.out w6 (HK17.out.trans ((hW.early (hl 13 (by decide))).1.mono HK17.out.size)); clear ht ho; simp only [execOp, e88]; go_simp; try rfl)
                        · refine OpH.wr rfl (fun Z us w6 ho ht hni hlim hreq hW K hK => ?_)
                          have e83 := (ht 83 (by decide)).trans (show _ = (.agg #[.int .i64 s.K, .int .i64 s.M, .int .i64 s.size] : Value) from rfl)
                          have e85 := (ht 85 (by decide)).trans (show _ = (.agg #[.slice A0 n0 c0, .slice A1 n1 c1] : Value) from rfl)
                          have e89 := (ht 89 (by decide)).trans (show _ = (.int .i64 N : Value) from rfl)
                          have hn := hlim 13 (by decide)
                          have hb6 := (hW.early hn).1
                          have hsz6 := hb6.size
                          have hA := HR.out w6 (HAL.out _ (HW10.out.trans ((HK17.out.trans (hb6.mono HK17.out.size)).mono HW10.out.size)))
                          have hcl := refFit_c (w := w6) (s := s) (n := N) HGD.out.1 HGD.out.2.1 HGD.out.2.2.1 HGD.out.2.2.2 hA.x0 hA.x1
                          rw [HTR.out] at hcl
                          refine step_call rfl 58 #[.tmp 83, .tmp 85, .tmp 89] #[23, 62, 3] rfl Try.func58 (by kernel_rfl) (by kernel_rfl) #[.agg #[.int .i64 s.K, .int .i64 s.M, .int .i64 s.size], .agg #[.slice A0 n0 c0, .slice A1 n1 c1], .int .i64 N] (by simp [e83, e85, e89]) (hcl) ?_
                          rintro e w7 ⟨A, n, c, B0, m0, d0, B1, m1, d1, rfl, q3, t0, t1, hb7⟩
                          exact ⟨_, rfl, hK _ _ (hW.snoc (by decide) hn hb7 (fun j v h => RT18.all hb7 j v h) (fun _ => ⟨_, _, _, _, _, _, _, _, _, rfl, q3.mono (fun b hb _ => by have : w6.heap.size ≤ b := hb; omega), t0.mono (fun b hb _ => by have : w6.heap.size ≤ b := hb; omega), t1.mono (fun b hb _ => by have : w6.heap.size ≤ b := hb; omega)⟩))⟩
                        · (refine OpH.rd rfl rfl (fun ρ us w6 ho ht hc hl hsrc hW => ?_); have e90 := (ht 90 (by decide)).trans (show _ = ((us.lookup 7).getD undef : Value) from rfl); clear ht ho; simp only [execOp, e90]; go_simp; try rfl)
                        · refine OpH.rd rfl rfl (fun ρ us w6 ho ht hc hl hsrc hW => ?_)
                          obtain ⟨vc, Wc, lc, rc⟩ := hW.ever (hsrc 7 (by exact (List.mem_singleton.2 rfl : (7 : Nat) ∈ [7]))) (by decide)
                          obtain ⟨A, n, c, B0, m0, d0, B1, m1, d1, rfl, _⟩ := rc rfl
                          have es := ((ht 82 (by decide)).trans (show _ = (us.lookup 7).getD undef from rfl)).trans (show _ = (.tuple #[.slice A n c, .agg #[.slice B0 m0 d0, .slice B1 m1 d1], .int .i64 TR.2.2] : Value) by rw [lc]; rfl)
                          change _ = Result.ok (Next.value (tupAt 0 ((us.lookup 7).getD undef))) w6
                          rw [lc]
                          clear ht ho hl hsrc hW lc rc
                          simp only [execOp, es]
                          go_simp
                          rfl
                        · refine OpH.rd rfl rfl (fun ρ us w6 ho ht hc hl hsrc hW => ?_)
                          obtain ⟨vc, Wc, lc, rc⟩ := hW.ever (hsrc 7 (by exact (List.mem_singleton.2 rfl : (7 : Nat) ∈ [7]))) (by decide)
                          obtain ⟨A, n, c, B0, m0, d0, B1, m1, d1, rfl, _⟩ := rc rfl
                          have es := ((ht 82 (by decide)).trans (show _ = (us.lookup 7).getD undef from rfl)).trans (show _ = (.tuple #[.slice A n c, .agg #[.slice B0 m0 d0, .slice B1 m1 d1], .int .i64 TR.2.2] : Value) by rw [lc]; rfl)
                          change _ = Result.ok (Next.value (tupAt 1 ((us.lookup 7).getD undef))) w6
                          rw [lc]
                          clear ht ho hl hsrc hW lc rc
                          simp only [execOp, es]
                          go_simp
                          rfl
                        · refine OpH.rd rfl rfl (fun ρ us w6 ho ht hc hl hsrc hW => ?_)
                          obtain ⟨vc, Wc, lc, rc⟩ := hW.ever (hsrc 7 (by exact (List.mem_singleton.2 rfl : (7 : Nat) ∈ [7]))) (by decide)
                          obtain ⟨A, n, c, B0, m0, d0, B1, m1, d1, rfl, _⟩ := rc rfl
                          have es := ((ht 82 (by decide)).trans (show _ = (us.lookup 7).getD undef from rfl)).trans (show _ = (.tuple #[.slice A n c, .agg #[.slice B0 m0 d0, .slice B1 m1 d1], .int .i64 TR.2.2] : Value) by rw [lc]; rfl)
                          change _ = Result.ok (Next.value (tupAt 2 ((us.lookup 7).getD undef))) w6
                          rw [lc]
                          clear ht ho hl hsrc hW lc rc
                          simp only [execOp, es]
                          go_simp
                          rfl
                        · (refine OpH.rd rfl rfl (fun ρ us w6 ho ht hc hl hsrc hW => ?_); have e91 := (ht 91 (by decide)).trans (show _ = (tupAt 0 ((us.lookup 7).getD undef) : Value) from rfl); clear ht ho; simp only [execOp, e91]; go_simp; try rfl)
                        · refine OpH.wr rfl (fun Z us w6 ho ht hni hlim hreq hW K hK => ?_)
                          have hE := hW.early hni
                          obtain ⟨vc, lc, mc⟩ := lookup_mem (hreq 7 (by decide))
                          obtain ⟨A, n, c, B0, m0, d0, B1, m1, d1, rfl, _⟩ := (hE.2 7 vc mc) rfl
                          have hr := (hE.1.block _ h17).trans HZ17.out
                          have ep := (ho 14 rfl).trans (show _ = (.pointer (some ⟨g14, 0, none⟩) : Value) from rfl)
                          have hst : stT g14 7 1 us w6 = setAll g14 0 [.slice B0 m0 d0, .slice B1 m1 d1] w6 := by unfold stT; rw [lc]; rfl
                          have ev := ((ht 92 (by decide)).trans (show _ = tupAt 1 ((us.lookup 7).getD undef) from rfl)).trans (show _ = (.agg #[.slice B0 m0 d0, .slice B1 m1 d1] : Value) by rw [lc]; rfl)
                          have hdone := hW.store hni (x := undef)
                          rw [hst] at hdone
                          have f0 := (cell_of_row w6 _ 0 _ _ _ hr).trans (show _ = some (Value.slice none 0 0) from rfl)
                          have f1 := (cell_of_row w6 _ 1 _ _ _ hr).trans (show _ = some (Value.slice none 0 0) from rfl)
                          have f4 := frozen_of_row w6 _ 0 _ _ hr
                          have f5 := frozen_of_row w6 _ 1 _ _ hr
                          have HDN := Lib.hid hdone; clear hdone hW hni hlim hreq ho ht hst hr lc mc hE
                          rw [if_pos (by simp [Region.wanted])]
                          unfold Oper.wp
                          generalize Z.eval = ρ at *
                          simp only [execOp, ep, ev]
                          go_simp
                          exact hK undef _ HDN.out
                        · (refine OpH.rd rfl rfl (fun ρ us w6 ho ht hc hl hsrc hW => ?_); have e93 := (ht 93 (by decide)).trans (show _ = (tupAt 2 ((us.lookup 7).getD undef) : Value) from rfl); clear ht ho; simp only [execOp, e93]; go_simp; try rfl)
                        -- TSAF
                        · intro us w9' hmem hW
                          obtain ⟨us0, W6, x0, rfl, rfl, hb, hR, hn1⟩ := hW.last (hmem 13 (by decide))
                          obtain ⟨v7, l7, m7⟩ := lookup_mem (before_mid (hmem 7 (by decide)) (by decide))
                          obtain ⟨Aw, nw, cw, B2, m2, d2, B3, m3, d3, rfl, q3, t0, t1⟩ := (hR 7 v7 m7) rfl
                          have hst : stT g14 7 1 us0 W6 = setAll g14 0 [.slice B2 m2 d2, .slice B3 m3 d3] W6 := by unfold stT; rw [l7]; rfl
                          rw [hst]
                          have hr := (hb.block _ h17).trans HZ17.out
                          have hrow := setAll_2 (a := .slice B2 m2 d2) (b := .slice B3 m3 d3) hr
                          have hT : Turns (fun _ => True) 62 W6 (setAll g14 0 [.slice B2 m2 d2, .slice B3 m3 d3] W6) := turnsAll trivial _ _ _ _ (Turns.refl _ _ _) (shape_of_cells hr)
                          have ck := CK.of_turns hT
                          have hB9 := setAll_below (g := g14) (m := g14) (Nat.le_refl _) [.slice B2 m2 d2, .slice B3 m3 d3] 0 W6 (HB17.out.trans (hb.mono (Nat.le_of_lt h17)))
                          have hq3 := (q3.ck (CKeeps.slE CKeeps.flat (by decide)) (by decide) ck).mono (S' := fun b => g14 ≤ b) (fun b hb _ => by have : w17.heap.size ≤ b := hb; omega)
                          have hdue : BX g14 TR.2.1 B2 m2 d2 B3 m3 d3 (setAll g14 0 [.slice B2 m2 d2, .slice B3 m3 d3] W6) := ⟨hrow, (t0.ck CKeeps.flat (by decide) ck).mono (fun _ _ _ => trivial), (t1.ck (CKeeps.slE CKeeps.flat (by decide)) (by decide) ck).mono (fun _ _ _ => trivial)⟩
                          simp only [putAll, List.map_cons, List.map_nil, List.foldl_cons, List.foldl_nil, Act.put, List.setIfInBounds_toArray, List.set_cons_succ, List.set_cons_zero]
                          generalize hsv : slotAt _ _ _ = sv
                          have s13 : sv 13 = .slice Aw nw cw := by rw [← hsv]; show tupAt 0 (((us0 ++ [(13, x0)]).lookup 7).getD undef) = _; rw [lookup_mid (by decide), l7]; rfl
                          have s12 : sv 12 = .int .i64 TR.2.2 := by rw [← hsv]; show tupAt 2 (((us0 ++ [(13, x0)]).lookup 7).getD undef) = _; rw [lookup_mid (by decide), l7]; rfl
                          rw [s12, s13]
                          have HDUE := Lib.hid (And.intro hdue hq3); clear hdue hq3
                          have HB9 := Lib.hid hB9; clear hB9
                          clear hsv s12 s13 hst hb hR hn1 hW hmem l7 m7 hr t0 t1 hT ck q3 hrow
                          generalize setAll g14 0 [.slice B2 m2 d2, .slice B3 m3 d3] W6 = w18 at *
                          go_wp2
                          go_meet
                          case rel => exact ⟨rfl, HB9, _, _, _, _, _, _, _, _, _, rfl, HDUE⟩
                    case rest =>
                      rename World => wc
                      obtain ⟨rfl, HBc, Wn, wn, cw, D0, e0, f0, D1, e1, f1, rfl, HDUE⟩ := hcut
                      have HC13 := Lib.hid (HBB.out.trans HBc.out)
                      have HKc := Lib.hid (HB13.out.trans (HC13.out.mono h1014))
                      obtain ⟨hrw, hyr, hy0, hy1⟩ := HLY.out wc HC13.out
                      have hlen : TR.1.length = n := by have h1 := hrw.len; have h2 := HBS.out.2; rw [List.length_zip] at h1; omega
                      obtain rfl : wn = n := by have h1 := HDUE.out.2.len; omega
                      have hcn : wn ≤ c := hrw.2.1
                      have hcw : wn ≤ cw := HDUE.out.2.2.1
                      have hc63 : c ≤ 9223372036854775807 := hrw.2.2.1
                      have HY := Lib.hid (show BX g10 TR.2.1 B0 m0 d0 B1 m1 d1 wc from ⟨hyr, hy0.mono (fun _ _ _ => trivial), hy1.mono (fun _ _ _ => trivial)⟩)
                      have HYS := Lib.hid (And.intro hy0 hy1); clear hy0 hy1 hyr
                      have HRW := Lib.hid hrw; clear hrw
                      have HD := Lib.hid HDUE.out.1
                      have HWT := Lib.hid HDUE.out.2
                      have HLN := Lib.hid hlen; clear hlen
                      clear HLY HDUE HC13 HBc HBB HK16 HB13 HZ
                      go_wp2_with fail
                      refine num18_c.mono ?_
                      rintro r wd ⟨rfl, hbd⟩
                      have HBd := Lib.hid hbd; clear hbd
                      have hyd := HY.out.all HBd.out
                      have hdd := HD.out.all HBd.out
                      have z0 := cell_of_row _ _ 0 _ _ _ hyd.row
                      have z1 := cell_of_row _ _ 1 _ _ _ hyd.row
                      have z2 := cell_of_row _ _ 0 _ _ _ hdd.row
                      have z3 := cell_of_row _ _ 1 _ _ _ hdd.row
                      have hq := EqSlots_c hyd.s0 hyd.s1 hdd.s0 hdd.s1
                      rw [decide_eq_true (by rfl)] at hq
                      have HQ := Lib.hid hq; clear hq hyd hdd
                      go_wp2_with fail
                      refine HQ.out.mono ?_
                      clear HQ z0 z1 z2 z3
                      rintro r we ⟨rfl, hbe⟩
                      have HBe := Lib.hid (HBd.out.trans (hbe.mono HBd.out.size)); clear hbe HBd
                      have hin := HIN.out.all (HKc.out.trans (HBe.out.mono HKc.out.size))
                      have z0 := cell_of_row _ _ 0 _ _ _ hin.row
                      have z1 := cell_of_row _ _ 1 _ _ _ hin.row
                      have HWe := Lib.hid (HW10.out.trans ((HKc.out.trans (HBe.out.mono HKc.out.size)).mono HW10.out.size))
                      obtain ⟨y0, y1, y2, y3⟩ := CELLS.out we HWe.out
                      have hA := HR.out we (HAL.out _ HWe.out)
                      have hq := EqSlots_c hin.s0 hin.s1 hA.x0 hA.x1
                      rw [decide_eq_true (by rfl)] at hq
                      have HQ := Lib.hid hq; clear hq hin hA
                      go_wp2_with fail
                      refine HQ.out.mono ?_
                      clear HQ z0 z1 y0 y1 y2 y3 HWe
                      rintro r wl ⟨rfl, hbl⟩
                      have HBl := Lib.hid (HBe.out.trans (hbl.mono HBe.out.size)); clear hbl HBe
                      have HL0 := Lib.hid (L3.start (HKc.out.trans (HBl.out.mono HKc.out.size)) (HWT.out.all HBl.out) HBS.out.2 (HRW.out.all HBl.out))
                      have HYl := Lib.hid (And.intro (HYS.out.1.all HBl.out) (HYS.out.2.all HBl.out))
                      have HYr := Lib.hid (HY.out.all HBl.out).row
                      have HBSN := Lib.hid (And.intro HBS.out.1 (HBS.out.2.trans HLN.out))
                      clear HRW HWT HYS HY HD HBl HKc HBS
                      go_wp2_with fail
                      go_loopw [15] (fun q wq => ∃ a : Nat, a ≤ wn ∧ q = .int .i64 a ∧ Hid (L3 w10 wl g14 A wn bs' TR.1 Wn cw a wq)) (fun q _ => wn - (intOf q).toNat)
                      case atStart => exact ⟨0, Nat.zero_le _, rfl, HL0⟩
                      case round =>
                        rename World => wq
                        clear HL0
                        obtain ⟨a, han, rfl, HL⟩ := hrel
                        by_cases hla : a < wn
                        · obtain ⟨bA, oA, Ar, nr, cr, rfl, ⟨q, hq⟩, c1, hs1⟩ := HL.out.rows a (Nat.le_refl _) hla
                          obtain ⟨bW, oW, Aw, nw2, cw2, rfl, _, hblW, hs2, c2, _⟩ := HL.out.want.sl_at hla
                          have hblA : bA < wq.heap.size := by
                            obtain ⟨cs, fr, hh⟩ := cells_of_shape hq
                            exact (Array.getElem?_eq_some_iff.1 hh).1
                          have hnr := hs1.cap
                          have hnr2 := hs1.le
                          have HS1 := Lib.hid hs1; clear hs1
                          have HS2 := Lib.hid hs2; clear hs2
                          have HCA := Lib.hid (fun V (hV : Below wq.heap.size wq V) => And.intro ((hV.cell (p := ⟨bA, oA + a, none⟩) hblA).trans c1) ((hV.cell (p := ⟨bW, oW + a, none⟩) hblW).trans c2))
                          clear c1 c2 hq hblA hblW
                          have HBQ24 := Lib.hid (Below.refl wq.heap.size wq)
                          go_wp2_with fail
                          refine region_free (by kernel_rfl) (by kernel_rfl) 168 rfl [124, 125, 126, 127, 128, 129, 130, 131, 132, 133] [8] [(132, 8)]
                            [(124, [], fun _ => .slice (some ⟨bA, oA, none⟩) wn c), (125, [], fun _ => .int .i64 (a : Int)), (126, [], fun _ => .pointer (some ⟨bA, oA + a, none⟩)), (127, [], fun _ => .slice Ar nr cr), (128, [], fun _ => .slice (some ⟨bW, oW, none⟩) wn cw), (129, [], fun _ => .int .i64 (a : Int)), (130, [], fun _ => .pointer (some ⟨bW, oW + a, none⟩)), (131, [], fun _ => .slice Aw nw2 cw2), (133, [8], fun _ => .bool false)]
                            [] [] [[], [], [124, 125], [126], [], [], [128, 129], [130], [127, 131], [132]]
                            (WdB wq (fun i v _ => i = 8 → v = .bool true)) (by kernel_rfl) .init ⟨?_, ?_, ?_, ?_, ?_, ?_, ?_, ?_, ?_, ?_, trivial⟩ ?_
                          -- FAST10 cdot
                          · (refine OpH.rd rfl rfl (fun ρ us w6 ho ht hc hl hsrc hW => ?_); have e9 := (ho 9 rfl).trans (show _ = (.slice (some ⟨bA, oA, none⟩) wn c : Value) from rfl); clear ht ho; simp only [execOp, e9]; go_simp; try rfl)
                          · (refine OpH.rd rfl rfl (fun ρ us w6 ho ht hc hl hsrc hW => ?_); have e15 := (ho 15 rfl).trans (show _ = (.int .i64 (a : Int) : Value) from rfl); clear ht ho; simp only [execOp, e15]; go_simp; try rfl)
                          · (refine OpH.rd rfl rfl (fun ρ us w6 ho ht hc hl hsrc hW => ?_); have e124 := (ht 124 (by decide)).trans (show _ = (.slice (some ⟨bA, oA, none⟩) wn c : Value) from rfl); have e125 := (ht 125 (by decide)).trans (show _ = (.int .i64 (a : Int) : Value) from rfl); clear ht ho; simp only [execOp, e124, e125]; go_simp; try rfl)
                          · (refine OpH.rd rfl rfl (fun ρ us w6 ho ht hc hl hsrc hW => ?_); have e126 := (ht 126 (by decide)).trans (show _ = (.pointer (some ⟨bA, oA + a, none⟩) : Value) from rfl); have q1 := (HCA.out w6 hW.1).1; clear ht ho; simp only [execOp, e126]; go_simp; try rfl)
                          · (refine OpH.rd rfl rfl (fun ρ us w6 ho ht hc hl hsrc hW => ?_); have e13 := (ho 13 rfl).trans (show _ = (.slice (some ⟨bW, oW, none⟩) wn cw : Value) from rfl); clear ht ho; simp only [execOp, e13]; go_simp; try rfl)
                          · (refine OpH.rd rfl rfl (fun ρ us w6 ho ht hc hl hsrc hW => ?_); have e15 := (ho 15 rfl).trans (show _ = (.int .i64 (a : Int) : Value) from rfl); clear ht ho; simp only [execOp, e15]; go_simp; try rfl)
                          · (refine OpH.rd rfl rfl (fun ρ us w6 ho ht hc hl hsrc hW => ?_); have e128 := (ht 128 (by decide)).trans (show _ = (.slice (some ⟨bW, oW, none⟩) wn cw : Value) from rfl); have e129 := (ht 129 (by decide)).trans (show _ = (.int .i64 (a : Int) : Value) from rfl); clear ht ho; simp only [execOp, e128, e129]; go_simp; try rfl)
                          · (refine OpH.rd rfl rfl (fun ρ us w6 ho ht hc hl hsrc hW => ?_); have e130 := (ht 130 (by decide)).trans (show _ = (.pointer (some ⟨bW, oW + a, none⟩) : Value) from rfl); have q1 := (HCA.out w6 hW.1).2; clear ht ho; simp only [execOp, e130]; go_simp; try rfl)
                          · refine OpH.wr rfl (fun Z us w6 ho ht hni hlim hreq hW K hK => ?_)
                            have e127 := (ht 127 (by decide)).trans (show _ = (.slice Ar nr cr : Value) from rfl)
                            have e131 := (ht 131 (by decide)).trans (show _ = (.slice Aw nw2 cw2 : Value) from rfl)
                            have hcl := EqSlotList_c (w := w6) (HS1.out.all hW.1) (HS2.out.all hW.1)
                            rw [decide_eq_true (by rfl)] at hcl
                            refine step_call rfl 38 #[.tmp 127, .tmp 131] #[71, 71] rfl Try.func38 (by kernel_rfl) (by kernel_rfl) #[.slice Ar nr cr, .slice Aw nw2 cw2] (by simp [e127, e131]) (hcl) ?_
                            rintro e w7 ⟨rfl, hb7⟩
                            exact ⟨_, rfl, hK _ _ (hW.snoc hb7 (fun j v h => h) (fun _ => rfl))⟩
                          · (refine OpH.rd rfl rfl (fun ρ us w6 ho ht hc hl hsrc hW => ?_); have e132 := (ht 132 (by decide)).trans (show _ = ((us.lookup 8).getD undef : Value) from rfl); rw [(hW.at_ (hsrc 8 (by exact (List.mem_singleton.2 rfl : (8 : Nat) ∈ [8])))) rfl] at e132; clear ht ho; simp only [execOp, e132]; go_simp; try rfl)
                          -- TSAF
                          · intro us w9 hmem hW
                            simp only [putAll, List.map_cons, List.map_nil, List.foldl_cons, List.foldl_nil, Act.put, List.setIfInBounds_toArray, List.set_cons_succ, List.set_cons_zero]
                            generalize hsv : slotAt _ _ us = sv
                            have hq : sv 133 = .bool false := by rw [← hsv]; rfl
                            rw [hq]
                            have HBQ24 := Lib.hid (HBQ24.out.trans (hW.1.mono HBQ24.out.size))
                            clear hsv hq hmem hW
                            have HL24 := Lib.hid (HL.out.all HBQ24.out)
                            have q1 := (HCA.out _ HBQ24.out).1
                            have hcl := SlotList_c (c := cr) (slots_wr (HS1.out.all HBQ24.out)) (by omega : nr ≤ 9223372036854775807)
                            have HCL := Lib.hid hcl; clear hcl
                            go_wp2_with fail
                            refine HCL.out.mono ?_
                            clear HCL q1
                            rintro r w26 ⟨⟨v, rfl⟩, hT⟩
                            have HLN2 := Lib.hid (HL24.out.next HBSN.out.1 HBSN.out.2 hla (HS1.out.all HBQ24.out) hT); clear hT
                            go_wp2
                            exact ⟨⟨a + 1, by omega, by go_num, HLN2⟩, by simp [intOf]; omega⟩
                        · obtain rfl : a = wn := by omega
                          have hyr := HL.out.ck.row _ _ _ _ (by decide) HYr.out
                          have z0 := cell_of_row _ _ 0 _ _ _ hyr
                          have z1 := cell_of_row _ _ 1 _ _ _ hyr
                          have hsp := spoil_c (HYl.out.1.ck CKeeps.flat (by decide) HL.out.ck) (HYl.out.2.ck (CKeeps.slE CKeeps.flat (by decide)) (by decide) HL.out.ck)
                          have HSP := Lib.hid hsp; clear hsp hyr
                          go_wp2_with fail
                          refine HSP.out.mono ?_
                          clear HSP z0 z1
                          rintro r wy ⟨⟨v, rfl⟩, hT⟩
                          have HBy := Lib.hid (below_of_tame hT HL.out.below (Nat.le_refl _) (fun b hb => hb.1.1)); clear hT
                          have hin := HIN.out.all HBy.out
                          have z0 := cell_of_row _ _ 0 _ _ _ hin.row
                          have z1 := cell_of_row _ _ 1 _ _ _ hin.row
                          have HWy := Lib.hid (HW10.out.trans (HBy.out.mono HW10.out.size))
                          obtain ⟨y0, y1, y2, y3⟩ := CELLS.out wy HWy.out
                          have hA := HR.out wy (HAL.out _ HWy.out)
                          have hq := EqSlots_c hin.s0 hin.s1 hA.x0 hA.x1
                          rw [decide_eq_true (by rfl)] at hq
                          have HQ := Lib.hid hq; clear hq hin hA
                          go_wp2_with fail
                          refine HQ.out.mono ?_
                          clear HQ z0 z1 y0 y1 y2 y3
                          rintro r wz ⟨rfl, hbz⟩
                          have HBn := Lib.hid (HB9J.out.trans ((HBy.out.trans (hbz.mono HBy.out.size)).mono HB9J.out.size)); clear hbz
                          go_wp2
                          exact ⟨⟨kk + 1, by omega, by go_num, HBn⟩, by simp [intOf]; omega⟩
              · obtain rfl : kk = 5 := by omega
                clear HBk
                have hA := HR.out wk (HAL.out _ HWk.out)
                have hmo := fitMost_c (s := s) hA.x0 hA.x1
                have HA := Lib.hid hA; clear hA
                obtain ⟨y0, y1, y2, y3⟩ := CELLS.out wk HWk.out
                obtain ⟨k0, k1, k2⟩ := ROW4.out wk HBBk.out
                have HMR : Hid (mostR s p.x = if may = true then ((mostX p.x (s.K + s.M).toNat 2000 : Int), 0) else (0, 1)) := Lib.hid (by
                  unfold mostR
                  have h1 := HMAY.out
                  by_cases hg : shapeOk s = true ∧ slotsOkB p.x = true
                  · rw [if_pos hg, if_pos (by rw [h1, hg.1, hg.2]; rfl)]
                  · rw [if_neg hg, if_neg (fun h => hg (by rw [h1] at h; simpa using h))])
                cases may with
                | false =>
                  rw [show mostR s p.x = (0, 1) from by rw [HMR.out]; rfl] at hmo
                  have HMO := Lib.hid hmo; clear hmo
                  go_wp2_with fail
                  refine HMO.out.mono ?_
                  clear HMO y0 y1 y2 y3 k0 k1 k2
                  rintro r wm ⟨rfl, hbm⟩
                  have HBm := Lib.hid hbm; clear hbm
                  go_wp2_with fail
                  refine num18_c.mono ?_
                  rintro r wn' ⟨rfl, hbn'⟩
                  have HBf := Lib.hid (HWk.out.trans ((HBm.out.trans (hbn'.mono HBm.out.size)).mono HWk.out.size)); clear hbn'
                  go_wp2
                  exact ⟨⟨ka + 1, by omega, by go_num, HBf⟩, by simp [intOf]; omega⟩
                | true =>
                  rw [show mostR s p.x = ((mostX p.x (s.K + s.M).toNat 2000 : Int), 0) from by rw [HMR.out]; rfl] at hmo
                  have hmm : shapeOk s = true ∧ slotsOkB p.x = true := by simpa using HMAY.out.symm
                  have hd := hmm.1
                  unfold shapeOk at hd
                  have hd := of_decide_eq_true hd
                  have HRM := Lib.hid (fun V (hV : Below wk.heap.size wk V) => (let hB := HA.out.all hV; refMost_c (w := V) (k := (s.K + s.M).toNat) hmm.1 (slotsOk_of hmm.2) (by omega) hB.x0 hB.x1))
                  clear hd
                  generalize mostX p.x (s.K + s.M).toNat 2000 = MX at *
                  have HMO := Lib.hid hmo; clear hmo hmm
                  go_wp2_with fail
                  refine HMO.out.mono ?_
                  clear HMO y0 y1 y2 y3 k0 k1 k2
                  rintro r wm ⟨rfl, hbm⟩
                  have HBm := Lib.hid hbm; clear hbm
                  have HRQ := Lib.hid (HRM.out wm HBm.out)
                  obtain ⟨y0, y1, y2, y3⟩ := CELLS.out wm (HWk.out.trans (HBm.out.mono HWk.out.size))
                  obtain ⟨k0, k1, k2⟩ := ROW4.out wm (HBBk.out.trans (HBm.out.mono HBBk.out.size))
                  go_wp2_with fail
                  refine HRQ.out.mono ?_
                  clear HRQ y0 y1 y2 y3 k0 k1 k2
                  rintro r wr ⟨rfl, hbr⟩
                  have HBr := Lib.hid (HBm.out.trans (hbr.mono HBm.out.size)); clear hbr
                  go_wp2_with fail
                  refine num18_c.mono ?_
                  rintro r wn' ⟨rfl, hbn'⟩
                  have HBf := Lib.hid (HWk.out.trans ((HBr.out.trans (hbn'.mono HBr.out.size)).mono HWk.out.size)); clear hbn'
                  go_wp2
                  exact ⟨⟨ka + 1, by omega, by go_num, HBf⟩, by simp [intOf]; omega⟩
      · go_wp2_with fail
        refine wakes18_c.mono ?_
        clear y0 y1 y2 y3
        rintro r w7 ⟨rfl, hb7⟩
        have HB7 := Lib.hid (HAL.out _ (HBo.out.trans (hb7.mono HBo.out.size))); clear hb7
        go_wp2
        go_ret
        exact ⟨by trivial, HB7.out⟩
      · go_wp2_with fail
        refine wakes18_c.mono ?_
        clear y0 y1 y2 y3
        rintro r w7 ⟨rfl, hb7⟩
        have HB7 := Lib.hid (HAL.out _ (HBo.out.trans (hb7.mono HBo.out.size))); clear hb7
        go_wp2
        go_ret
        exact ⟨by trivial, HB7.out⟩
end Go.Proofs.Ytfccghfcilccfaa
