/- silolaw15.PlaceMoves answers true. Printed by gen_k8.py. -/
import Derived.Test.YtfccghfcilccfaaE5
import Derived.Test.YtfccghfcilccfaaE6
import Derived.Test.YtfccghfcilccfaaP5
import Derived.Test.YtfccghfcilccfaaK4
import Derived.Deep.CutBlock
namespace Go.Proofs.Ytfccghfcilccfaa
open Go.RowKit Go.Silo

theorem turns_setAll {S : Nat → Prop} {T : TypeId} {g n : Nat} (hS : S g) : ∀ (vs : List Value) (k : Nat) (W0 W : World), Turns S T W0 W → W.shape? g = some (T, n) → Turns S T W0 (setAll g k vs W)
  | [], _, _, _, h, _ => h
  | v :: vs, k, W0, _, h, hs => turns_setAll hS vs (k + 1) W0 _ (h.setCell (p := ⟨g, k, none⟩) hS hs v) ((shape_setCell _ _ _ _).trans hs)
theorem shiftR_bad {s : Shape} {l : List Stripe} {y : SlotsD} (h : ((stripesB s l && shapeOk s) && slotsOkB y) = false) : shiftR s l y = (noNeed, 1) := by
  unfold shiftR
  rw [if_neg]
  intro h2
  simp only [Bool.and_eq_true] at h2
  rw [h2.1.1, h2.1.2, h2.2] at h
  cases h
theorem shiftR_good {s : Shape} {l : List Stripe} {y : SlotsD} (h : ((stripesB s l && shapeOk s) && slotsOkB y) = true) : shiftR s l y = ((shiftX y l).1, if (shiftX y l).2 = true then 0 else 3) := by
  unfold shiftR
  simp only [Bool.and_eq_true] at h
  rw [if_pos (by rw [h.1.1, h.1.2, h.2]; rfl)]
theorem shiftX_no {y : SlotsD} {l : List Stripe} (h : (shiftX y l).2 = false) : (shiftX y l).1 = noNeed := by
  unfold shiftX at *
  split at h
  · split at h
    · cases h
    · next h1 h2 => rw [if_pos h1, if_neg h2]
  · next h1 => rw [if_neg h1]

theorem _root_.Go.Silo.WdS.ever {V W : World} {R : Nat → Value → World → Prop} {s1 : Nat} {st1 : List (Nat × Value) → World → World} {us : List (Nat × Value)} (h : WdS V R s1 st1 us W) {i : Nat} (hi : i ∈ us.map Prod.fst) (h1 : i ≠ s1) : ∃ v W0, us.lookup i = some v ∧ R i v W0 := by
  cases h with
  | pre _ hR _ => obtain ⟨v, a, b⟩ := lookup_mem hi; exact ⟨v, _, a, hR i v b⟩
  | @one us0 W0 x _ hR _ => obtain ⟨v, a, b⟩ := lookup_mem (before_mid hi h1); exact ⟨v, _, by rw [lookup_mid h1]; exact a, hR i v b⟩
/-- A store of a part of step iv's tuple into step ib's box. -/
def stTB (ib iv k : Nat) (us : List (Nat × Value)) (W : World) : World := setAll (blkOf ((us.lookup ib).getD undef)) 0 (partsOf (tupAt k ((us.lookup iv).getD undef))) W
/-- What the region gives that moves a stripe. -/
def RMv (MV : Stripe × List Slot × Int) (V : World) (i : Nat) (v : Value) (W : World) : Prop :=
  (i = 7 → ∃ A n c B m d, v = .tuple #[.agg #[.int .i64 MV.1.id, .int .i64 MV.1.len, .int .i64 MV.1.gen, .slice A n c], .slice B m d, .int .i64 MV.2.2] ∧ Sl true 104 slotE W (fun _ => True) A n c MV.1.place ∧ Sl true 104 slotE W (fun _ => True) B m d MV.2.1) ∧
  (i = 12 → ∃ g, v = .pointer (some ⟨g, 0, none⟩) ∧ V.heap.size ≤ g ∧ W.heap[g]? = some (.cells #[.int .i64 0, .int .i64 0, .int .i64 0, .slice none 0 0] 79 (0, 0)))
theorem RMv.all {MV : Stripe × List Slot × Int} {V W W' : World} (hb : Below W.heap.size W W') (j : Nat) (v : Value) (h : RMv MV V j v W) : RMv MV V j v W' :=
  ⟨fun hj => by obtain ⟨A, n, c, B, m, d, e, t1, t2⟩ := h.1 hj; exact ⟨A, n, c, B, m, d, e, t1.all hb, t2.all hb⟩, fun hj => by obtain ⟨g, a, b, c⟩ := h.2 hj; exact ⟨g, a, b, (hb.block _ (Array.getElem?_eq_some_iff.1 c).1).trans c⟩⟩
def RMw (MV : Stripe × List Slot × Int) (i : Nat) (v : Value) (W : World) : Prop :=
  i = 6 → ∃ A n c B m d, v = .tuple #[.agg #[.int .i64 MV.1.id, .int .i64 MV.1.len, .int .i64 MV.1.gen, .slice A n c], .slice B m d] ∧ Sl true 104 slotE W (fun _ => True) A n c MV.1.place ∧ Sl true 104 slotE W (fun _ => True) B m d MV.2.1
theorem RMw.all {MV : Stripe × List Slot × Int} {W W' : World} (hb : Below W.heap.size W W') (j : Nat) (v : Value) (h : RMw MV j v W) : RMw MV j v W' :=
  fun hj => by obtain ⟨A, n, c, B, m, d, e, t1, t2⟩ := h hj; exact ⟨A, n, c, B, m, d, e, t1.all hb, t2.all hb⟩
theorem fits_use {s : Shape} {x : Stripe} {nd : Need} (h : fitsB s x nd = true) : nd.index.length = nd.to.length ∧ ∀ j, j < nd.index.length → ∃ i : Nat, nd.index.getD j 0 = (i : Int) ∧ i < x.place.length := by
  unfold fitsB at h
  simp only [Bool.and_eq_true, decide_eq_true_eq, List.all_eq_true, List.mem_range] at h
  exact ⟨h.1.2.1, fun j hj => fitAt_idx (h.2.1 j hj)⟩

set_option maxRecDepth 100000 in
set_option maxHeartbeats 16000000 in
theorem PlaceMoves_c {S : Nat → Prop} {w : World} {p : AskP} {As Ax A0 A1 Ag An : Option Addr} {ns cs nx cx n0 c0 n1 c1 ng cg nn cn : Nat} (hB : AskB p) (h : AskR w S p As ns cs Ax nx cx A0 n0 c0 A1 n1 c1 Ag ng cg An nn cn) :
    Calls Try.prog 11 #[.agg #[.slice As ns cs, .slice Ax nx cx, .slice A0 n0 c0, .slice A1 n1 c1, .slice Ag ng cg, .slice An nn cn]] w (RetV (.bool true) w) := by
  have HLS := Lib.hid h.s.len
  have HLX := Lib.hid h.x.len
  have HLG := Lib.hid h.g.len
  have hcs : ns ≤ 9223372036854775807 := Nat.le_trans h.s.le h.s.cap
  have hcx : nx ≤ 9223372036854775807 := Nat.le_trans h.x.le h.x.cap
  have HR := Lib.hid (fun W (hW : Below w.heap.size w W) => h.all hW)
  have hrow := heap_alloc_new w (.cells #[.slice As ns cs, .slice Ax nx cx, .slice A0 n0 c0, .slice A1 n1 c1, .slice Ag ng cg, .slice An nn cn] 76)
  have hz : w.heap.size < (w.alloc (.cells #[.slice As ns cs, .slice Ax nx cx, .slice A0 n0 c0, .slice A1 n1 c1, .slice Ag ng cg, .slice An nn cn] 76)).heap.size := by simp
  have hal : Below w.heap.size w (w.alloc (.cells #[.slice As ns cs, .slice Ax nx cx, .slice A0 n0 c0, .slice A1 n1 c1, .slice Ag ng cg, .slice An nn cn] 76)) := (by repeat' (first | (with_reducible exact Below.refl _ _) | (with_reducible refine Below.alloc ?_ ?_ _) | (with_reducible refine Below.drew ?_) | (with_reducible refine below_drewN ?_ _) | (with_reducible refine Below.setCell ?_ ?_ _) | (refine via ?_ (by with_reducible assumption) ?_) | (refine via ?_ (below_ext _ _) ?_) | go_size))
  have HHV := Lib.hid (Heavy15_c hB (h.all hal)); clear hB h
  go_enter Try.func11, Try.ntmps11
  go_upto_region 1 with (fail)
  generalize (w.alloc (.cells #[.slice As ns cs, .slice Ax nx cx, .slice A0 n0 c0, .slice A1 n1 c1, .slice Ag ng cg, .slice An nn cn] 76)) = W0 at *
  have HAL := Lib.hid (fun W (hW : Below W0.heap.size W0 W) => hal.trans (hW.mono (Nat.le_of_lt hz))); clear hal
  have CELLS : Hid (∀ W, Below W0.heap.size W0 W → W.cell? ⟨w.heap.size, 0, none⟩ = some (.slice As ns cs) ∧ W.cell? ⟨w.heap.size, 1, none⟩ = some (.slice Ax nx cx) ∧ W.cell? ⟨w.heap.size, 2, none⟩ = some (.slice A0 n0 c0) ∧ W.cell? ⟨w.heap.size, 3, none⟩ = some (.slice A1 n1 c1) ∧ W.cell? ⟨w.heap.size, 4, none⟩ = some (.slice Ag ng cg) ∧ W.cell? ⟨w.heap.size, 5, none⟩ = some (.slice An nn cn)) := Lib.hid (fun W hW => by
    have r := (hW.block _ hz).trans hrow
    exact ⟨cell_of_row W _ 0 _ _ _ r, cell_of_row W _ 1 _ _ _ r, cell_of_row W _ 2 _ _ _ r, cell_of_row W _ 3 _ _ _ r, cell_of_row W _ 4 _ _ _ r, cell_of_row W _ 5 _ _ _ r⟩)
  clear hrow
  obtain ⟨y0, y1, y2, y3, y4, y5⟩ := CELLS.out W0 (Below.refl _ _)
  go_wp2_with fail
  refine HHV.out.mono ?_
  clear y0 y1 y2 y3 y4 y5
  rintro e w1 ⟨v, rfl, hb1, hlt0⟩
  have HB1 := Lib.hid hb1; clear hb1
  have HLT0 := Lib.hid hlt0; clear hlt0
  cases v with
  | true =>
    go_wp2
    go_ret
    exact ⟨by trivial, HAL.out _ HB1.out⟩
  | false =>
    have HLT := Lib.hid (HLT0.out rfl); clear HLT0
    obtain ⟨y0, y1, y2, y3, y4, y5⟩ := CELLS.out w1 HB1.out
    have hA := HR.out w1 (HAL.out _ HB1.out)
    have hsp := Spread_c hA.y0 hA.y1
    generalize hsv : (if slotsOkB p.y = true then spreadX p.y else 0) = sv at *
    generalize hsb : slotsOkB p.y = sb at *
    have HSV := Lib.hid hsv; clear hsv
    have HSB := Lib.hid hsb; clear hsb
    have HSP := Lib.hid hsp; clear hsp hA
    go_wp2_with fail
    refine HSP.out.mono ?_
    clear HSP y0 y1 y2 y3 y4 y5
    rintro r w2 ⟨rfl, hb2⟩
    have HB2 := Lib.hid (HB1.out.trans (hb2.mono HB1.out.size)); clear hb2 HB1
    obtain ⟨y0, y1, y2, y3, y4, y5⟩ := CELLS.out w2 HB2.out
    have hA := HR.out w2 (HAL.out _ HB2.out)
    have hq := refSlots_c hA.y0 hA.y1
    rw [HSB.out] at hq
    have HQ := Lib.hid hq; clear hq hA
    go_wp2_with fail
    refine HQ.out.mono ?_
    clear HQ y0 y1 y2 y3 y4 y5
    rintro r w3 ⟨rfl, hb3⟩
    have HB3 := Lib.hid (HB2.out.trans (hb3.mono HB2.out.size)); clear hb3 HB2
    obtain ⟨y0, y1, y2, y3, y4, y5⟩ := CELLS.out w3 HB3.out
    go_upto_if 35 with (fail)
    go_cut [5, 6] from 36 to 38 (fun a b V => a = .int .i64 (okErr sb) ∧ b = .int .i64 sv ∧ Hid (Below W0.heap.size W0 V))
    case first =>
      cases sb with
      | false =>
        have hv : sv = 0 := by rw [← HSV.out]; rfl
        have HV := Lib.hid hv; clear hv
        go_wp2
        go_meet
        case rel => exact ⟨rfl, by rw [HV.out], HB3⟩
      | true =>
        have hv : sv = spreadX p.y := by rw [← HSV.out]; rfl
        have HV := Lib.hid hv; clear hv
        have hA := HR.out w3 (HAL.out _ HB3.out)
        have HQ := Lib.hid (refSpread_c (slotsOk_of HSB.out) hA.y0 hA.y1); clear hA
        go_wp2_with fail
        refine HQ.out.mono ?_
        clear HQ y0 y1 y2 y3 y4 y5
        rintro r w4 ⟨rfl, hb4⟩
        have HB4 := Lib.hid (HB3.out.trans (hb4.mono HB3.out.size)); clear hb4
        go_wp2
        go_meet
        case rel => exact ⟨rfl, by rw [HV.out], HB4⟩
    case rest =>
      rename World => wc
      obtain ⟨rfl, rfl, HBc⟩ := hcut
      clear HB3 y0 y1 y2 y3 y4 y5
      go_wp2_with fail
      refine num15_c.mono ?_
      rintro r w5 ⟨rfl, hb5⟩
      have HB5 := Lib.hid (HBc.out.trans (hb5.mono HBc.out.size)); clear hb5 HBc
      go_wp2_with fail
      go_loopw [7] (fun i wr => ∃ k : Nat, k ≤ ns ∧ i = .int .i64 k ∧ Hid (Below W0.heap.size W0 wr)) (fun i _ => ns - (intOf i).toNat)
      case atStart => exact ⟨0, Nat.zero_le _, rfl, HB5⟩
      case round =>
        rename World => wo
        clear HB5
        obtain ⟨ka, hka, rfl, HBo⟩ := hrel
        obtain ⟨y0, y1, y2, y3, y4, y5⟩ := CELLS.out wo HBo.out
        by_cases hlt : ka < ns
        · by_cases hlt5 : ka < 5
          · obtain ⟨bs, os, rfl, _, hbls, j1, j2, j3, q0, q1, q2, _⟩ := (HR.out wo (HAL.out _ HBo.out)).s.shape_at hlt
            generalize p.s.getD ka default = s at *
            have HSI := Lib.hid (show I64 s.K ∧ I64 s.M ∧ I64 s.size from ⟨j1, j2, j3⟩); clear j1 j2 j3
            go_upto_region 13 with (fail)
            clear q0 q1 q2 y0 y1 y2 y3 y4 y5
            have hbrow := heap_alloc_new wo (.cells #[.int .i64 s.K, .int .i64 s.M, .int .i64 s.size] 23)
            have hblt : wo.heap.size < (wo.alloc (.cells #[.int .i64 s.K, .int .i64 s.M, .int .i64 s.size] 23)).heap.size := by simp
            have HBb := Lib.hid (HBo.out.trans (((Below.refl _ wo).alloc (Nat.le_refl _) (.cells #[.int .i64 s.K, .int .i64 s.M, .int .i64 s.size] 23)).mono HBo.out.size))
            generalize wo.alloc (.cells #[.int .i64 s.K, .int .i64 s.M, .int .i64 s.size] 23) = wb at *
            generalize wo.heap.size = g8 at *
            have ROW8 := Lib.hid (fun V (hV : Below wb.heap.size wb V) => (show V.cell? ⟨g8, 0, none⟩ = some (.int .i64 s.K) ∧ V.cell? ⟨g8, 1, none⟩ = some (.int .i64 s.M) ∧ V.cell? ⟨g8, 2, none⟩ = some (.int .i64 s.size) from by
              have r := (hV.block _ hblt).trans hbrow
              exact ⟨cell_of_row V _ 0 _ _ _ r, cell_of_row V _ 1 _ _ _ r, cell_of_row V _ 2 _ _ _ r⟩))
            clear hbrow hblt
            have hnx : nx ≤ 3000 := by have := HLT.out.1.2.1; have := HLX.out; omega
            have HCP := Lib.hid (CopyStripes_c (HR.out wb (HAL.out _ HBb.out)).x (by omega) (fun x hx => by have := HLT.out.2.2.1 x hx; omega))
            obtain ⟨y0, y1, y2, y3, y4, y5⟩ := CELLS.out wb HBb.out
            go_wp2_with fail
            refine HCP.out.mono ?_
            clear HCP y0 y1 y2 y3 y4 y5
            rintro r w6 ⟨A9, c9, rfl, hown, hb6⟩
            rw [HLX.out] at hown ⊢
            have HB6 := Lib.hid hb6; clear hb6
            have HC6 := Lib.hid (hown.sl (tg := false)); clear hown
            have hA := HR.out w6 (HAL.out _ (HBb.out.trans (HB6.out.mono HBb.out.size)))
            have HPS := Lib.hid (placeShift_c (s := s) (l := p.x) (y := p.y) HSI.out HC6.out hA.y0 hA.y1 (by omega) (fun x hx => by have := HLT.out.2.2.1 x hx; omega)); clear hA
            obtain ⟨y0, y1, y2, y3, y4, y5⟩ := CELLS.out w6 (HBb.out.trans (HB6.out.mono HBb.out.size))
            obtain ⟨k0, k1, k2⟩ := ROW8.out w6 HB6.out
            generalize hrs : shiftR s p.x p.y = RS at *
            have HRSD := Lib.hid hrs.symm; clear hrs
            go_wp2_with fail
            refine HPS.out.mono ?_
            clear HPS y0 y1 y2 y3 y4 y5 k0 k1 k2
            rintro r w7 ⟨Ai, ni, ci, At, nt, ct, rfl, ti, tt, hb7⟩
            have HT := Lib.hid (show _ ∧ _ from ⟨ti, tt⟩); clear ti tt
            have HB7 := Lib.hid (HB6.out.trans (hb7.mono HB6.out.size))
            have HC7 := Lib.hid (HC6.out.all hb7); clear hb7 HC6
            go_upto_region 17 with (fail)
            have hr10 : ((w7.alloc (.cells #[.int .i64 RS.1.stripe, .slice Ai ni ci, .slice At nt ct] 88)).alloc (.cells #[.int .i64 0, .slice none 0 0, .slice none 0 0] 88)).heap[w7.heap.size]? = some (.cells #[.int .i64 RS.1.stripe, .slice Ai ni ci, .slice At nt ct] 88 (0, 0)) := (Below.heap_alloc _ _ _ (by simp)).trans (heap_alloc_new w7 _)
            have hr13 : ((w7.alloc (.cells #[.int .i64 RS.1.stripe, .slice Ai ni ci, .slice At nt ct] 88)).alloc (.cells #[.int .i64 0, .slice none 0 0, .slice none 0 0] 88)).heap[w7.heap.size + 1]? = some (.cells #[.int .i64 0, .slice none 0 0, .slice none 0 0] 88 (0, 0)) := by
              have := heap_alloc_new (w7.alloc (.cells #[.int .i64 RS.1.stripe, .slice Ai ni ci, .slice At nt ct] 88)) (.cells #[.int .i64 0, .slice none 0 0, .slice none 0 0] 88)
              rw [World.size_alloc] at this; exact this
            have h78 : Below w7.heap.size w7 ((w7.alloc (.cells #[.int .i64 RS.1.stripe, .slice Ai ni ci, .slice At nt ct] 88)).alloc (.cells #[.int .i64 0, .slice none 0 0, .slice none 0 0] 88)) := ((Below.refl _ _).alloc (Nat.le_refl _) _).alloc (by simp) _
            have hz8 : ((w7.alloc (.cells #[.int .i64 RS.1.stripe, .slice Ai ni ci, .slice At nt ct] 88)).alloc (.cells #[.int .i64 0, .slice none 0 0, .slice none 0 0] 88)).heap.size = w7.heap.size + 2 := by simp
            have HB8 := Lib.hid (HB7.out.trans (h78.mono HB7.out.size))
            have HC8 := Lib.hid (HC7.out.lt_block.all h78)
            have HI8 := Lib.hid (HT.out.1.lt_block.all h78)
            have HO8 := Lib.hid (HT.out.2.lt_block.all h78)
            have h0g : W0.heap.size ≤ w7.heap.size := Nat.le_trans HBb.out.size HB7.out.size
            have hbg : wb.heap.size ≤ w7.heap.size := HB7.out.size
            clear HT h78 HC7 HB7
            generalize ((w7.alloc (.cells #[.int .i64 RS.1.stripe, .slice Ai ni ci, .slice At nt ct] 88)).alloc (.cells #[.int .i64 0, .slice none 0 0, .slice none 0 0] 88)) = w8 at *
            generalize w7.heap.size = g10 at *
            have HZ8 := Lib.hid hz8; clear hz8
            have HR10 := Lib.hid hr10; clear hr10
            have HR13 := Lib.hid hr13; clear hr13
            have HW8 := Lib.hid (HBb.out.trans (HB8.out.mono HBb.out.size))
            have hqs := refStripes_c (s := s) (HR.out w8 (HAL.out _ HW8.out)).x
            generalize hst : (stripesB s p.x && shapeOk s) = st at *
            have HST := Lib.hid hst; clear hst
            have HQS := Lib.hid hqs; clear hqs
            go_cut [83] from 75 to 83 (fun t83 V => t83 = .bool (st && sb) ∧ Hid (Below w8.heap.size w8 V))
            case first =>
              obtain ⟨y0, y1, y2, y3, y4, y5⟩ := CELLS.out w8 HW8.out
              obtain ⟨k0, k1, k2⟩ := ROW8.out w8 HB8.out
              go_wp2_with fail
              refine HQS.out.mono ?_
              clear HQS y0 y1 y2 y3 y4 y5 k0 k1 k2
              rintro r w9 ⟨rfl, hb9⟩
              have HB9 := Lib.hid hb9; clear hb9
              cases st with
              | false =>
                go_wp2
                go_meet
                case rel => exact ⟨rfl, HB9⟩
              | true =>
                have HW9 := Lib.hid (HW8.out.trans (HB9.out.mono HW8.out.size))
                obtain ⟨y0, y1, y2, y3, y4, y5⟩ := CELLS.out w9 HW9.out
                have hA := HR.out w9 (HAL.out _ HW9.out)
                have hq := refSlots_c hA.y0 hA.y1
                rw [HSB.out] at hq
                have HQ := Lib.hid hq; clear hq hA
                go_wp2_with fail
                refine HQ.out.mono ?_
                clear HQ y0 y1 y2 y3 y4 y5
                rintro r w10 ⟨rfl, hb10⟩
                have HB10 := Lib.hid (HB9.out.trans (hb10.mono HB9.out.size)); clear hb10
                go_wp2
                go_meet
                case rel => exact ⟨by simp, HB10⟩
            case rest =>
              rename World => w11
              obtain ⟨rfl, HB11⟩ := hcut
              clear HQS
              go_upto_if 83 with (fail)
              go_cut [12] from 83 to 93 (fun t12 V => t12 = .int .i64 RS.2 ∧ Hid (Below (g10 + 1) w8 V) ∧ ∃ A n c B k d, Hid (V.heap[g10 + 1]? = some (.cells #[.int .i64 RS.1.stripe, .slice A n c, .slice B k d] 88 (0, 0)) ∧ Sl true 3 intE V (fun _ => True) A n c RS.1.index ∧ Sl true 104 slotE V (fun _ => True) B k d RS.1.to))
              case first =>
                have HZ11 : Hid (Below (g10 + 1) w8 w11) := Lib.hid (HB11.out.mono (by have := HZ8.out; omega))
                have HR11 : Hid (w11.heap[g10 + 1]? = some (.cells #[.int .i64 0, .slice none 0 0, .slice none 0 0] 88 (0, 0))) := Lib.hid ((HB11.out.block _ (by have := HZ8.out; omega)).trans HR13.out)
                cases hbb : (st && sb) with
                | false =>
                  have HRS : Hid (RS = (noNeed, 1)) := Lib.hid (HRSD.out.trans (shiftR_bad (by rw [HST.out, HSB.out]; exact hbb)))
                  clear hbb
                  go_wp2
                  go_meet
                  case rel => exact ⟨by rw [HRS.out], HZ11, none, 0, 0, none, 0, 0, Lib.hid (by rw [HRS.out]; exact ⟨HR11.out, Sl.nil_ (by decide), Sl.nil_ (by decide)⟩)⟩
                | true =>
                  have hst1 : st = true ∧ sb = true := by simpa using hbb
                  have HY := Lib.hid (slotsOk_of (HSB.out.trans hst1.2))
                  have HRS : Hid (RS = ((shiftX p.y p.x).1, if (shiftX p.y p.x).2 = true then 0 else 3)) := Lib.hid (HRSD.out.trans (shiftR_good (by rw [HST.out, HSB.out]; exact hbb)))
                  clear hbb hst1
                  have HW11 := Lib.hid (HW8.out.trans (HB11.out.mono HW8.out.size))
                  obtain ⟨y0, y1, y2, y3, y4, y5⟩ := CELLS.out w11 HW11.out
                  have hA := HR.out w11 (HAL.out _ HW11.out)
                  have hq := refShift_c HY.out hA.x hA.y0 hA.y1 (by omega) (fun x hx => by have := HLT.out.2.2.1 x hx; omega)
                  have HNO := Lib.hid (@shiftX_no p.y p.x)
                  generalize shiftX p.y p.x = X at *
                  have HQ := Lib.hid hq; clear hq hA
                  go_wp2_with fail
                  refine HQ.out.mono ?_
                  clear HQ y0 y1 y2 y3 y4 y5
                  rintro r w12 ⟨A, m, c, B, k, d, rfl, ti, tt, hb12⟩
                  have HB12 := Lib.hid hb12
                  have HT := Lib.hid (show _ ∧ _ from ⟨ti, tt⟩); clear ti tt hb12
                  obtain ⟨X1, X2⟩ := X
                  go_upto_if 92 with (fail)
                  have hal : Below w12.heap.size w12 (w12.alloc (.cells #[.int .i64 X1.stripe, .slice A m c, .slice B k d] 88)) := (Below.refl _ _).alloc (Nat.le_refl _) _
                  have hr14 := heap_alloc_new w12 (.cells #[.int .i64 X1.stripe, .slice A m c, .slice B k d] 88)
                  have HB14 := Lib.hid (HB11.out.trans ((HB12.out.trans (hal.mono HB12.out.size)).mono HB11.out.size))
                  have HI14 := Lib.hid (HT.out.1.lt_block.all hal)
                  have HO14 := Lib.hid (HT.out.2.lt_block.all hal)
                  have hsz : w11.heap.size ≤ w12.heap.size := HB12.out.size
                  clear HT hal HB12
                  generalize (w12.alloc (.cells #[.int .i64 X1.stripe, .slice A m c, .slice B k d] 88)) = w14 at *
                  have hz13 : g10 + 1 < w11.heap.size := by have := HB11.out.size; have := HZ8.out; omega
                  have HR14 := Lib.hid hr14; clear hr14
                  generalize w12.heap.size = g14 at *
                  cases X2 with
                  | false =>
                    have HX1 := Lib.hid (HNO.out rfl)
                    have HR3 : Hid (RS = (noNeed, 3)) := Lib.hid (by rw [HRS.out]; show ((X1, 3) : Need × Int) = _; rw [show X1 = noNeed from HX1.out])
                    go_wp2
                    go_meet
                    case rel => exact ⟨by rw [HR3.out], Lib.hid (HB14.out.mono (by have := HZ8.out; omega)), none, 0, 0, none, 0, 0, Lib.hid (by rw [HR3.out]; exact ⟨(HB14.out.block _ (by have := HZ8.out; omega)).trans HR13.out, Sl.nil_ (by decide), Sl.nil_ (by decide)⟩)⟩
                  | true =>
                    have HR0 : Hid (RS = (X1, 0)) := Lib.hid (by rw [HRS.out]; rfl)
                    have hg14 : g10 + 2 ≤ g14 := by have := HZ8.out; have := HB11.out.size; omega
                    have hdd : Below w14.heap.size w14 w14.drew := (Below.refl _ _).drew
                    have h14l : g14 < w14.heap.size := (Array.getElem?_eq_some_iff.1 HR14.out).1
                    have HRD := Lib.hid ((hdd.block _ h14l).trans HR14.out)
                    have h13l : g10 + 1 < w14.heap.size := by omega
                    have hrd13 := (hdd.block _ h13l).trans ((HB14.out.block _ (by have := HZ8.out; omega)).trans HR13.out)
                    have hf0 := (cell_of_row w14.drew _ 0 _ _ _ hrd13).trans (show _ = some (Value.int .i64 0) from rfl)
                    have hf1 := (cell_of_row w14.drew _ 1 _ _ _ hrd13).trans (show _ = some (Value.slice none 0 0) from rfl)
                    have hf2 := (cell_of_row w14.drew _ 2 _ _ _ hrd13).trans (show _ = some (Value.slice none 0 0) from rfl)
                    have hg0 := frozen_of_row w14.drew _ 0 _ _ hrd13
                    have hg1 := frozen_of_row w14.drew _ 1 _ _ hrd13
                    have hg2 := frozen_of_row w14.drew _ 2 _ _ hrd13
                    have HRV := Lib.hid (setAll_3 (a := .int .i64 X1.stripe) (b := .slice A m c) (c := .slice B k d) hrd13)
                    have HBV := Lib.hid (setAll_below (g := g10 + 1) (m := g10 + 1) (Nat.le_refl _) [.int .i64 X1.stripe, .slice A m c, .slice B k d] 0 w14.drew ((show Below (g10 + 1) w8 w14 from HB14.out.mono (by have := HZ8.out; omega)).trans (show Below (g10 + 1) w14 w14.drew from hdd.mono (by omega))))
                    have HTV : Turns (fun b => b = g10 + 1) 88 w14.drew (setAll (g10 + 1) 0 [.int .i64 X1.stripe, .slice A m c, .slice B k d] w14.drew) := turns_setAll (S := fun b => b = g10 + 1) rfl _ _ _ _ (Turns.refl _ _ _) (shape_of_cells hrd13)
                    have HIV := Lib.hid (HTV.sl (intE_avoids _) (by decide) (HI14.out.all hdd))
                    have HOV := Lib.hid (HTV.sl (slotE_avoids _) (by decide) (HO14.out.all hdd))
                    clear HTV hrd13 hdd
                    go_wp2_with fail
                    refine region_free (by kernel_rfl) (by kernel_rfl) 204 rfl [93, 12] [2] []
                      [(93, [], fun _ => .agg #[.int .i64 X1.stripe, .slice A m c, .slice B k d]), (12, [], fun _ => .int .i64 0)]
                      [[2], [2]] [] [[], [], [93]]
                      (Wd1 w14.drew 2 (setAll (g10 + 1) 0 [.int .i64 X1.stripe, .slice A m c, .slice B k d] w14.drew)) (by kernel_rfl) .pre ⟨?_, ?_, ?_, trivial⟩ ?_
                    · (refine OpH.rd rfl rfl (fun ρ us w6 ho ht hc hl hsrc hW => ?_); have e14 := (ho 14 rfl).trans (show _ = ((.pointer (some ⟨g14, 0, none⟩)) : Value) from rfl); obtain ⟨rfl, rfl⟩ := hW.early (hl 2 (by decide)); have y0 := cell_of_row _ _ 0 _ _ _ HRD.out; have y1 := cell_of_row _ _ 1 _ _ _ HRD.out; have y2 := cell_of_row _ _ 2 _ _ _ HRD.out; clear ht ho; simp only [execOp, e14]; go_simp; try rfl)
                    · (refine OpH.rd rfl rfl (fun ρ us w6 ho ht hc hl hsrc hW => ?_); clear ht ho; simp only [execOp]; go_simp; try rfl)
                    · refine OpH.wr rfl (fun Z us w6 ho ht hni hlim hreq hW K hK => ?_)
                      obtain ⟨rfl, ew⟩ := hW.early hni
                      rw [← ew] at hf0 hf1 hf2 hg0 hg1 hg2
                      have e93 := (ht 93 (by decide)).trans (show _ = (.agg #[.int .i64 X1.stripe, .slice A m c, .slice B k d] : Value) from rfl)
                      have e13 := (ho 13 rfl).trans (show _ = (.pointer (some ⟨g10 + 1, 0, none⟩) : Value) from rfl)
                      have HK : Hid (K (Z.put none undef) (((w6.setCell ⟨g10 + 1, 0, none⟩ (.int .i64 X1.stripe)).setCell ⟨g10 + 1, 1, none⟩ (.slice A m c)).setCell ⟨g10 + 1, 2, none⟩ (.slice B k d))) := Lib.hid (by rw [ew]; exact hK undef _ .post)
                      clear hK hW hni hlim hreq ho ht ew
                      rw [if_pos (by simp [Region.wanted])]
                      unfold Oper.wp
                      generalize Z.eval = ρ at *
                      simp only [execOp, e93, e13]
                      go_simp
                      exact HK.out
                    · intro us w9 hmem hW
                      obtain rfl := hW.done (hmem 2 (by decide))
                      simp only [putAll, List.map_cons, List.map_nil, List.foldl_cons, List.foldl_nil, Act.put, List.setIfInBounds_toArray, List.set_cons_succ, List.set_cons_zero]
                      generalize hsv : slotAt _ _ us = sv0
                      have hq : sv0 12 = .int .i64 0 := by rw [← hsv]; rfl
                      rw [hq]
                      clear hsv hq hmem hW hf0 hf1 hf2 hg0 hg1 hg2
                      generalize (setAll (g10 + 1) 0 [.int .i64 X1.stripe, .slice A m c, .slice B k d] w14.drew) = w9 at *
                      go_wp2
                      go_meet
                      case rel => exact ⟨by rw [HR0.out], HBV, A, m, c, B, k, d, Lib.hid (by rw [HR0.out]; exact ⟨HRV.out, HIV.out.mono (fun _ _ _ => trivial), HOV.out.mono (fun _ _ _ => trivial)⟩)⟩
              case rest =>
                rename World => w15
                obtain ⟨rfl, HB15, A, m, c, B, k, d, HN13⟩ := hcut
                have HC15 := Lib.hid (HC8.out.below HB15.out (fun b h _ => by have := h.2; omega))
                have HI15 := Lib.hid (HI8.out.below HB15.out (fun b h _ => by have := h.2; omega))
                have HO15 := Lib.hid (HO8.out.below HB15.out (fun b h _ => by have := h.2; omega))
                have HR15 := Lib.hid ((HB15.out.block g10 (by omega)).trans HR10.out)
                have HW15 := Lib.hid (HW8.out.trans (HB15.out.mono (by omega)))
                have HB815 := Lib.hid (HB8.out.trans (HB15.out.mono (by omega)))
                have h15l : g10 < w15.heap.size := (Array.getElem?_eq_some_iff.1 HR15.out).1
                have h15m : g10 + 1 < w15.heap.size := (Array.getElem?_eq_some_iff.1 HN13.out.1).1
                clear HB11 HC8 HI8 HO8 HR10 HR13 HW8 HB8 HZ8 HB15 HRSD HST
                have KEEP := Lib.hid (fun V (hV : Below w15.heap.size w15 V) => And.intro ((hV.block _ h15l).trans HR15.out) (And.intro ((hV.block _ h15m).trans HN13.out.1) (And.intro (HI15.out.all hV) (And.intro (HO15.out.all hV) (And.intro (HN13.out.2.1.all hV) (And.intro (HN13.out.2.2.all hV) (And.intro (HC15.out.all hV) (HR.out V (HAL.out _ (HW15.out.trans (hV.mono HW15.out.size)))))))))))
                have HROW := Lib.hid (fun V (hV : Below w15.heap.size w15 V) => ROW8.out V (HB815.out.trans (hV.mono HB815.out.size)))
                clear HC15 HI15 HO15 HR15 HN13 ROW8 HB815
                go_wp2_with fail
                refine num15_c.mono ?_
                rintro r w16 ⟨rfl, hb16⟩
                have HB16 := Lib.hid hb16; clear hb16
                obtain ⟨r10, r13, i1, o1, i2, o2, _, _⟩ := KEEP.out w16 HB16.out
                have hq := EqNeed_c (w := w16) (x := RS.1) (y := RS.1) i1 o1 i2 o2
                rw [decide_eq_true (rfl : RS.1 = RS.1)] at hq
                have HQ := Lib.hid hq; clear hq
                have a0 := cell_of_row _ _ 0 _ _ _ r10
                have a1 := cell_of_row _ _ 1 _ _ _ r10
                have a2 := cell_of_row _ _ 2 _ _ _ r10
                have b0 := cell_of_row _ _ 0 _ _ _ r13
                have b1 := cell_of_row _ _ 1 _ _ _ r13
                have b2 := cell_of_row _ _ 2 _ _ _ r13
                clear r10 r13 i1 o1 i2 o2
                go_wp2_with fail
                refine HQ.out.mono ?_
                clear HQ a0 a1 a2 b0 b1 b2
                rintro r w17 ⟨rfl, hb17⟩
                have HB17 := Lib.hid (HB16.out.trans (hb17.mono HB16.out.size)); clear hb17 HB16
                obtain ⟨_, _, _, _, _, _, cp, hA⟩ := KEEP.out w17 HB17.out
                have hq := EqStripes_c (w := w17) (xs := p.x) (ys := p.x) cp hA.x
                rw [decide_eq_true (rfl : p.x = p.x)] at hq
                have HQ := Lib.hid hq; clear hq cp hA
                obtain ⟨y0, y1, y2, y3, y4, y5⟩ := CELLS.out w17 (HW15.out.trans (HB17.out.mono HW15.out.size))
                go_wp2_with fail
                refine HQ.out.mono ?_
                clear HQ y0 y1 y2 y3 y4 y5
                rintro r w18 ⟨rfl, hb18⟩
                have HB18 := Lib.hid (HB17.out.trans (hb18.mono HB17.out.size)); clear hb18 HB17
                have HW18 := Lib.hid (HW15.out.trans (HB18.out.mono HW15.out.size))
                have HROW18 := Lib.hid (fun V (hV : Below w18.heap.size w18 V) => HROW.out V (HB18.out.trans (hV.mono HB18.out.size)))
                clear KEEP HROW HW15 HB18
                go_wp2_with fail
                go_loopw [16] (fun i wr => ∃ k : Nat, k ≤ nx ∧ i = .int .i64 k ∧ Hid (Below w18.heap.size w18 wr)) (fun i _ => nx - (intOf i).toNat)
                case atStart => exact ⟨0, Nat.zero_le _, rfl, Lib.hid (Below.refl _ _)⟩
                case round =>
                  rename World => wi
                  obtain ⟨kb, hkb, rfl, HBi⟩ := hrel
                  have HWi := Lib.hid (HW18.out.trans (HBi.out.mono HW18.out.size))
                  obtain ⟨y0, y1, y2, y3, y4, y5⟩ := CELLS.out wi HWi.out
                  by_cases hltb : kb < nx
                  · by_cases hltb5 : kb < 5
                    · go_wp2_with fail
                      clear y0 y1 y2 y3 y4 y5
                      rw [show decide ((kb : Int) < 5) = true from decide_eq_true (by omega)]
                      go_loopw [17] (fun i wr => ∃ k : Nat, k ≤ nn ∧ i = .int .i64 k ∧ Hid (Below wi.heap.size wi wr)) (fun i _ => nn - (intOf i).toNat)
                      case atStart => exact ⟨0, Nat.zero_le _, rfl, Lib.hid (Below.refl _ _)⟩
                      case round =>
                        rename World => wj
                        obtain ⟨kc, hkc, rfl, HBj⟩ := hrel
                        have HBij := Lib.hid (HBi.out.trans (HBj.out.mono HBi.out.size))
                        have HWj := Lib.hid (HW18.out.trans (HBij.out.mono HW18.out.size))
                        obtain ⟨y0, y1, y2, y3, y4, y5⟩ := CELLS.out wj HWj.out
                        by_cases hltc : kc < nn
                        · by_cases hltc5 : kc < 5
                          · have hA := HR.out wj (HAL.out _ HWj.out)
                            obtain ⟨bx, ox, Ap, np, cp, rfl, _, hblx, i1, i2, i3, hpl, z0, z1, z2, z3, _⟩ := hA.x.stripe_at hltb
                            obtain ⟨bn, on, Ai, mi, ci', At, mt, ct', rfl, _, hbln, ia, hidx, hto, a0, a1, a2, _⟩ := hA.n.need_at hltc
                            have hx3 : (p.x.getD kb default).place.length ≤ 3000 := HLT.out.2.2.1 _ (getD_mem (d := default) (by have := HLX.out; omega))
                            have hn3 : (p.n.getD kc default).index.length ≤ 3000 := (HLT.out.2.2.2 _ (getD_mem (d := default) (by have := hA.n.len; omega))).1
                            generalize p.x.getD kb default = x at *
                            generalize p.n.getD kc default = a at *
                            have HXI := Lib.hid (show I64 x.id ∧ I64 x.len ∧ I64 x.gen from ⟨i1, i2, i3⟩); clear i1 i2 i3
                            have HPL := Lib.hid hpl.lt_block; clear hpl
                            have HIX := Lib.hid hidx.lt_block; clear hidx
                            have HTO := Lib.hid hto.lt_block; clear hto
                            have HIA := Lib.hid ia; clear ia hA
                            have XC := Lib.hid (fun V (hV : Below wj.heap.size wj V) => (show V.cell? ⟨bx, ox + kb * 4, none⟩ = some (.int .i64 x.id) ∧ V.cell? ⟨bx, ox + kb * 4 + 1, none⟩ = some (.int .i64 x.len) ∧ V.cell? ⟨bx, ox + kb * 4 + 2, none⟩ = some (.int .i64 x.gen) ∧ V.cell? ⟨bx, ox + kb * 4 + 3, none⟩ = some (.slice Ap np cp) from
                              ⟨(hV.cell (p := ⟨bx, ox + kb * 4, none⟩) hblx).trans z0, (hV.cell (p := ⟨bx, ox + kb * 4 + 1, none⟩) hblx).trans z1, (hV.cell (p := ⟨bx, ox + kb * 4 + 2, none⟩) hblx).trans z2, (hV.cell (p := ⟨bx, ox + kb * 4 + 3, none⟩) hblx).trans z3⟩))
                            clear z0 z1 z2 z3
                            go_upto_region 31 with (fail)
                            clear a0 a1 a2 y0 y1 y2 y3 y4 y5
                            have hal : Below wj.heap.size wj (wj.alloc (.cells #[.int .i64 a.stripe, .slice Ai mi ci', .slice At mt ct'] 88)) := (Below.refl _ _).alloc (Nat.le_refl _) _
                            have hrk := heap_alloc_new wj (.cells #[.int .i64 a.stripe, .slice Ai mi ci', .slice At mt ct'] 88)
                            have hjk : wj.heap.size < (wj.alloc (.cells #[.int .i64 a.stripe, .slice Ai mi ci', .slice At mt ct'] 88)).heap.size := by simp
                            have HWK := Lib.hid (HWj.out.trans (hal.mono HWj.out.size))
                            have XCK := Lib.hid (fun V (hV : Below wj.heap.size (wj.alloc (.cells #[.int .i64 a.stripe, .slice Ai mi ci', .slice At mt ct'] 88)) V) => XC.out V (hal.trans hV))
                            have HALK := Lib.hid hal; clear hal
                            generalize (wj.alloc (.cells #[.int .i64 a.stripe, .slice Ai mi ci', .slice At mt ct'] 88)) = wk at *
                            have hxj : bx < wj.heap.size := hblx
                            obtain ⟨y0, y1, y2, y3, y4, y5⟩ := CELLS.out wk HWK.out
                            obtain ⟨z0, z1, z2, z3⟩ := XCK.out wk (Below.refl _ _)
                            have f0 := frozen_of_row _ _ 0 _ _ hrk
                            have c0' := cell_of_row _ _ 0 _ _ _ hrk
                            go_upto_if 140 with (fail)
                            go_cut [17] from 138 to 147 (fun t17 V => t17 = .int .i64 (kc : Int) ∧ ∃ id : Int, Hid (I64 id ∧ V.heap[wj.heap.size]? = some (.cells #[.int .i64 id, .slice Ai mi ci', .slice At mt ct'] 88 (0, 0)) ∧ Below wj.heap.size wk V))
                            case first =>
                              have HRK := Lib.hid (show I64 a.stripe ∧ wk.heap[wj.heap.size]? = some (.cells #[.int .i64 a.stripe, .slice Ai mi ci', .slice At mt ct'] 88 (0, 0)) ∧ Below wj.heap.size wk wk from ⟨HIA.out, hrk, Below.refl _ _⟩)
                              have HRK2 := Lib.hid (show I64 x.id ∧ (wk.setCell ⟨wj.heap.size, 0, none⟩ (.int .i64 x.id)).heap[wj.heap.size]? = some (.cells #[.int .i64 x.id, .slice Ai mi ci', .slice At mt ct'] 88 (0, 0)) ∧ Below wj.heap.size wk (wk.setCell ⟨wj.heap.size, 0, none⟩ (.int .i64 x.id)) from ⟨HXI.out.1, by simp [World.setCell, Array.getElem?_modify, hrk], (show Below wj.heap.size wk (wk.setCell ⟨wj.heap.size, 0, none⟩ (.int .i64 x.id)) from (Below.refl wj.heap.size wk).setCell (show wj.heap.size ≤ wj.heap.size from Nat.le_refl _) _)⟩)
                              go_wp2
                              · go_meet
                                case rel => exact ⟨rfl, _, HRK2⟩
                              · go_meet
                                case rel => exact ⟨rfl, _, HRK⟩
                            case rest =>
                              rename World => wm
                              obtain ⟨rfl, id, HRM⟩ := hcut
                              have hjm : wj.heap.size < wm.heap.size := (Array.getElem?_eq_some_iff.1 HRM.out.2.1).1
                              have hBm : Below wj.heap.size wj wm := HALK.out.trans HRM.out.2.2
                              have HWm := Lib.hid (HWj.out.trans (hBm.mono HWj.out.size))
                              have HBm := Lib.hid hBm; clear hBm
                              have hnd1 : (⟨id, a.index, a.to⟩ : Need).stripe = id := rfl
                              have HPm := Lib.hid (fun V (hV : Below wm.heap.size wm V) => (HPL.out.all HBm.out).all hV)
                              have HIm := Lib.hid (fun V (hV : Below wm.heap.size wm V) => (HIX.out.all HBm.out).all hV)
                              have HTm := Lib.hid (fun V (hV : Below wm.heap.size wm V) => (HTO.out.all HBm.out).all hV)
                              have HXm := Lib.hid (fun V (hV : Below wm.heap.size wm V) => XC.out V (HBm.out.trans (hV.mono (Nat.le_of_lt hjm))))
                              have HRm := Lib.hid (fun V (hV : Below wm.heap.size wm V) => (hV.block _ hjm).trans HRM.out.2.1)
                              have HSm := Lib.hid (fun V (hV : Below wm.heap.size wm V) => HROW18.out V (HBij.out.trans ((HBm.out.trans (hV.mono (Nat.le_of_lt hjm))).mono HBij.out.size)))
                              have HYm := Lib.hid (fun V (hV : Below wm.heap.size wm V) => CELLS.out V (HWm.out.trans (hV.mono HWm.out.size)))
                              clear HALK XC XCK HPL HIX HTO y0 y1 y2 y3 y4 y5 z0 z1 z2 z3 f0 c0' hrk
                              obtain ⟨nd, rfl, hni, hnt⟩ : ∃ nd : Need, nd.stripe = id ∧ nd.index = a.index ∧ nd.to = a.to := ⟨⟨id, a.index, a.to⟩, rfl, rfl, rfl⟩
                              rw [← hni] at HIm hn3
                              rw [← hnt] at HTm
                              clear hni hnt hnd1
                              have hml := moved_law (s := s) (x := x) (nd := nd)
                              generalize hmv : movedR s x nd = MV at *
                              have HMV := Lib.hid hmv; clear hmv
                              have HML := Lib.hid hml; clear hml
                              have hnp : np ≤ 3000 := by have := (HPm.out wm (Below.refl _ _)).len; omega
                              have hmi : mi ≤ 3000 := by have := (HIm.out wm (Below.refl _ _)).len; omega
                              go_upto_region 33 with (fail)
                              refine region_free (by kernel_rfl) (by kernel_rfl) 204 rfl [149, 150, 151, 152, 153, 154, 155, 156, 148, 157, 158, 159, 19, 20, 21] [7, 12, 13] [(156, 7), (19, 12)]
                                [(149, [], fun _ => .agg #[.int .i64 s.K, .int .i64 s.M, .int .i64 s.size]), (150, [], fun _ => (.pointer (some ⟨w.heap.size, 1, none⟩))), (151, [], fun _ => .slice (some ⟨bx, ox, none⟩) nx cx), (152, [], fun _ => .int .i64 (kb : Int)), (153, [], fun _ => .pointer (some ⟨bx, ox + kb * 4, none⟩)), (154, [], fun _ => .agg #[.int .i64 x.id, .int .i64 x.len, .int .i64 x.gen, .slice Ap np cp]), (155, [], fun _ => .agg #[.int .i64 nd.stripe, .slice Ai mi ci', .slice At mt ct']), (148, [7], fun l => l.getD 0 undef), (157, [7], fun l => tupAt 0 (l.getD 0 undef)), (158, [7], fun l => tupAt 1 (l.getD 0 undef)), (159, [7], fun l => tupAt 2 (l.getD 0 undef)), (20, [7], fun l => tupAt 1 (l.getD 0 undef)), (21, [7], fun l => tupAt 2 (l.getD 0 undef))]
                                [[13], [13], [13], [13], [13], [13], [13], [13], [13], [13], [], [], [13]] [[], [], [], [], [], [], [], [], [], [], [], [], [], [7, 12]] [[], [], [150], [], [151, 152], [153], [], [149, 154, 155], [156], [148], [148], [148], [], [19, 157], [158], [159]]
                                (WdS wm (RMv MV wm) 13 (stTB 12 7 0)) (by kernel_rfl) .init ⟨?_, ?_, ?_, ?_, ?_, ?_, ?_, ?_, ?_, ?_, ?_, ?_, ?_, ?_, ?_, ?_, trivial⟩ ?_
                              -- FAST16 cdot
                              · (refine OpH.rd rfl rfl (fun ρ us w6 ho ht hc hl hsrc hW => ?_); have e8 := (ho 8 rfl).trans (show _ = ((.pointer (some ⟨g8, 0, none⟩)) : Value) from rfl); obtain ⟨k0, k1, k2⟩ := HSm.out w6 (hW.early (hl 13 (by decide))).1; clear ht ho; simp only [execOp, e8]; go_simp; try rfl)
                              · (refine OpH.rd rfl rfl (fun ρ us w6 ho ht hc hl hsrc hW => ?_); have e1 := (ho 1 rfl).trans (show _ = ((.pointer (some ⟨w.heap.size, 0, none⟩)) : Value) from rfl); clear ht ho; simp only [execOp, e1]; go_simp; try rfl)
                              · (refine OpH.rd rfl rfl (fun ρ us w6 ho ht hc hl hsrc hW => ?_); have e150 := (ht 150 (by decide)).trans (show _ = ((.pointer (some ⟨w.heap.size, 1, none⟩)) : Value) from rfl); obtain ⟨y0, y1, y2, y3, y4, y5⟩ := HYm.out w6 (hW.early (hl 13 (by decide))).1; clear ht ho; simp only [execOp, e150]; go_simp; try rfl)
                              · (refine OpH.rd rfl rfl (fun ρ us w6 ho ht hc hl hsrc hW => ?_); have e16 := (ho 16 rfl).trans (show _ = (.int .i64 (kb : Int) : Value) from rfl); clear ht ho; simp only [execOp, e16]; go_simp; try rfl)
                              · (refine OpH.rd rfl rfl (fun ρ us w6 ho ht hc hl hsrc hW => ?_); have e151 := (ht 151 (by decide)).trans (show _ = (.slice (some ⟨bx, ox, none⟩) nx cx : Value) from rfl); have e152 := (ht 152 (by decide)).trans (show _ = (.int .i64 (kb : Int) : Value) from rfl); clear ht ho; simp only [execOp, e151, e152]; go_simp; try rfl)
                              · (refine OpH.rd rfl rfl (fun ρ us w6 ho ht hc hl hsrc hW => ?_); have e153 := (ht 153 (by decide)).trans (show _ = (.pointer (some ⟨bx, ox + kb * 4, none⟩) : Value) from rfl); obtain ⟨z0, z1, z2, z3⟩ := HXm.out w6 (hW.early (hl 13 (by decide))).1; clear ht ho; simp only [execOp, e153]; go_simp; try rfl)
                              · (refine OpH.rd rfl rfl (fun ρ us w6 ho ht hc hl hsrc hW => ?_); have e18 := (ho 18 rfl).trans (show _ = ((.pointer (some ⟨wj.heap.size, 0, none⟩)) : Value) from rfl); have hr := HRm.out w6 (hW.early (hl 13 (by decide))).1; have z0 := cell_of_row _ _ 0 _ _ _ hr; have z1 := cell_of_row _ _ 1 _ _ _ hr; have z2 := cell_of_row _ _ 2 _ _ _ hr; clear hr; clear ht ho; simp only [execOp, e18]; go_simp; try rfl)
                              · refine OpH.wr rfl (fun Z us w6 ho ht hni hlim hreq hW K hK => ?_)
                                have e149 := (ht 149 (by decide)).trans (show _ = (.agg #[.int .i64 s.K, .int .i64 s.M, .int .i64 s.size] : Value) from rfl)
                                have e154 := (ht 154 (by decide)).trans (show _ = (.agg #[.int .i64 x.id, .int .i64 x.len, .int .i64 x.gen, .slice Ap np cp] : Value) from rfl)
                                have e155 := (ht 155 (by decide)).trans (show _ = (.agg #[.int .i64 nd.stripe, .slice Ai mi ci', .slice At mt ct'] : Value) from rfl)
                                have hn := hlim 13 (by decide)
                                have hb6 := (hW.early hn).1
                                have hcl := Moved_c (w := w6) (s := s) (x := x) (nd := nd) HSI.out HXI.out (HPm.out w6 hb6) (HIm.out w6 hb6) (HTm.out w6 hb6)
                                rw [HMV.out] at hcl
                                refine step_call rfl 66 #[.tmp 149, .tmp 154, .tmp 155] #[23, 79, 88] rfl Try.func66 (by kernel_rfl) (by kernel_rfl) #[.agg #[.int .i64 s.K, .int .i64 s.M, .int .i64 s.size], .agg #[.int .i64 x.id, .int .i64 x.len, .int .i64 x.gen, .slice Ap np cp], .agg #[.int .i64 nd.stripe, .slice Ai mi ci', .slice At mt ct']] (by simp [e149, e154, e155]) (hcl) ?_
                                rintro e w7 ⟨A2, n2, c2, B2, m2, d2, rfl, t1, t2, hb7⟩
                                exact ⟨_, rfl, hK _ _ (hW.snoc (by decide) hn hb7 (fun j v h => RMv.all hb7 j v h) ⟨fun _ => ⟨_, _, _, _, _, _, rfl, t1.mono (fun _ _ _ => trivial), t2.mono (fun _ _ _ => trivial)⟩, fun h => absurd h (by decide)⟩)⟩
                              · (refine OpH.rd rfl rfl (fun ρ us w6 ho ht hc hl hsrc hW => ?_); have e156 := (ht 156 (by decide)).trans (show _ = ((us.lookup 7).getD undef : Value) from rfl); clear ht ho; simp only [execOp, e156]; go_simp; try rfl)
                              · refine OpH.rd rfl rfl (fun ρ us w6 ho ht hc hl hsrc hW => ?_)
                                obtain ⟨v7, W7, l7, r7⟩ := hW.ever (hsrc 7 (by exact (List.mem_singleton.2 rfl : (7 : Nat) ∈ [7]))) (by decide)
                                obtain ⟨A2, n2, c2, B2, m2, d2, rfl, _⟩ := r7.1 rfl
                                have e148 := ((ht 148 (by decide)).trans (show _ = (us.lookup 7).getD undef from rfl)).trans (show _ = (.tuple #[.agg #[.int .i64 MV.1.id, .int .i64 MV.1.len, .int .i64 MV.1.gen, .slice A2 n2 c2], .slice B2 m2 d2, .int .i64 MV.2.2] : Value) by rw [l7]; rfl)
                                change _ = Result.ok (Next.value (tupAt 0 ((us.lookup 7).getD undef))) w6
                                rw [l7]
                                clear ht ho hl hsrc hW l7 r7
                                simp only [execOp, e148]
                                go_simp
                                rfl
                              · refine OpH.rd rfl rfl (fun ρ us w6 ho ht hc hl hsrc hW => ?_)
                                obtain ⟨v7, W7, l7, r7⟩ := hW.ever (hsrc 7 (by exact (List.mem_singleton.2 rfl : (7 : Nat) ∈ [7]))) (by decide)
                                obtain ⟨A2, n2, c2, B2, m2, d2, rfl, _⟩ := r7.1 rfl
                                have e148 := ((ht 148 (by decide)).trans (show _ = (us.lookup 7).getD undef from rfl)).trans (show _ = (.tuple #[.agg #[.int .i64 MV.1.id, .int .i64 MV.1.len, .int .i64 MV.1.gen, .slice A2 n2 c2], .slice B2 m2 d2, .int .i64 MV.2.2] : Value) by rw [l7]; rfl)
                                change _ = Result.ok (Next.value (tupAt 1 ((us.lookup 7).getD undef))) w6
                                rw [l7]
                                clear ht ho hl hsrc hW l7 r7
                                simp only [execOp, e148]
                                go_simp
                                rfl
                              · refine OpH.rd rfl rfl (fun ρ us w6 ho ht hc hl hsrc hW => ?_)
                                obtain ⟨v7, W7, l7, r7⟩ := hW.ever (hsrc 7 (by exact (List.mem_singleton.2 rfl : (7 : Nat) ∈ [7]))) (by decide)
                                obtain ⟨A2, n2, c2, B2, m2, d2, rfl, _⟩ := r7.1 rfl
                                have e148 := ((ht 148 (by decide)).trans (show _ = (us.lookup 7).getD undef from rfl)).trans (show _ = (.tuple #[.agg #[.int .i64 MV.1.id, .int .i64 MV.1.len, .int .i64 MV.1.gen, .slice A2 n2 c2], .slice B2 m2 d2, .int .i64 MV.2.2] : Value) by rw [l7]; rfl)
                                change _ = Result.ok (Next.value (tupAt 2 ((us.lookup 7).getD undef))) w6
                                rw [l7]
                                clear ht ho hl hsrc hW l7 r7
                                simp only [execOp, e148]
                                go_simp
                                rfl
                              · refine OpH.wr rfl (fun Z us w6 ho ht hni hlim hreq hW K hK => ?_)
                                have hn := hlim 13 (by decide)
                                have hdone := hW.snoc (i := 12) (x := .pointer (some ⟨w6.heap.size, 0, none⟩)) (by decide) hn ((Below.refl _ _).alloc (Nat.le_refl _) (.cells #[.int .i64 0, .int .i64 0, .int .i64 0, .slice none 0 0] 79)) (fun j v h => RMv.all ((Below.refl _ _).alloc (Nat.le_refl _) _) j v h) ⟨fun h => absurd h (by decide), fun _ => ⟨_, rfl, (hW.early hn).1.size, heap_alloc_new _ _⟩⟩
                                have HDN := Lib.hid hdone; clear hdone hW hni hlim hreq ho ht hn
                                rw [if_pos (by simp [Region.wanted])]
                                unfold Oper.wp
                                generalize Z.eval = ρ at *
                                simp only [execOp]
                                go_simp
                                exact hK _ _ HDN.out
                              · refine OpH.wr rfl (fun Z us w6 ho ht hni hlim hreq hW K hK => ?_)
                                have hE := hW.early hni
                                obtain ⟨v7, l7, m7⟩ := lookup_mem (hreq 7 (by decide))
                                obtain ⟨v12, l12, m12⟩ := lookup_mem (hreq 12 (by decide))
                                obtain ⟨A2, n2, c2, B2, m2, d2, rfl, _, _⟩ := (hE.2 7 v7 m7).1 rfl
                                obtain ⟨g, rfl, hg, hr⟩ := (hE.2 12 v12 m12).2 rfl
                                have e19 := ((ht 19 (by decide)).trans (show _ = (us.lookup 12).getD undef from rfl)).trans (show _ = (.pointer (some ⟨g, 0, none⟩) : Value) by rw [l12]; rfl)
                                have e157 := ((ht 157 (by decide)).trans (show _ = tupAt 0 ((us.lookup 7).getD undef) from rfl)).trans (show _ = (.agg #[.int .i64 MV.1.id, .int .i64 MV.1.len, .int .i64 MV.1.gen, .slice A2 n2 c2] : Value) by rw [l7]; rfl)
                                have hst : stTB 12 7 0 us w6 = setAll g 0 [.int .i64 MV.1.id, .int .i64 MV.1.len, .int .i64 MV.1.gen, .slice A2 n2 c2] w6 := by unfold stTB; rw [l12, l7]; rfl
                                have hdone := hW.store hni (x := undef)
                                rw [hst] at hdone
                                have f0 := (cell_of_row w6 _ 0 _ _ _ hr).trans (show _ = some (Value.int .i64 0) from rfl)
                                have f1 := (cell_of_row w6 _ 1 _ _ _ hr).trans (show _ = some (Value.int .i64 0) from rfl)
                                have f2 := (cell_of_row w6 _ 2 _ _ _ hr).trans (show _ = some (Value.int .i64 0) from rfl)
                                have f3 := (cell_of_row w6 _ 3 _ _ _ hr).trans (show _ = some (Value.slice none 0 0) from rfl)
                                have f4 := frozen_of_row w6 _ 0 _ _ hr
                                have f5 := frozen_of_row w6 _ 1 _ _ hr
                                have f6 := frozen_of_row w6 _ 2 _ _ hr
                                have f7 := frozen_of_row w6 _ 3 _ _ hr
                                have HDN := Lib.hid hdone; clear hdone hW hni hlim hreq ho ht hst hr l7 l12 m7 m12 hE
                                rw [if_pos (by simp [Region.wanted])]
                                unfold Oper.wp
                                generalize Z.eval = ρ at *
                                simp only [execOp, e19, e157]
                                go_simp
                                exact hK undef _ HDN.out
                              · (refine OpH.rd rfl rfl (fun ρ us w6 ho ht hc hl hsrc hW => ?_); have e158 := (ht 158 (by decide)).trans (show _ = (tupAt 1 ((us.lookup 7).getD undef) : Value) from rfl); clear ht ho; simp only [execOp, e158]; go_simp; try rfl)
                              · (refine OpH.rd rfl rfl (fun ρ us w6 ho ht hc hl hsrc hW => ?_); have e159 := (ht 159 (by decide)).trans (show _ = (tupAt 2 ((us.lookup 7).getD undef) : Value) from rfl); clear ht ho; simp only [execOp, e159]; go_simp; try rfl)
                              -- TSAF
                              · intro us w9 hmem hW
                                obtain ⟨us0, W6, x0, rfl, rfl, hb, hR, hn1⟩ := hW.last (hmem 13 (by decide))
                                obtain ⟨v7, l7, m7⟩ := lookup_mem (before_mid (hmem 7 (by decide)) (by decide))
                                obtain ⟨v12, l12, m12⟩ := lookup_mem (before_mid (hmem 12 (by decide)) (by decide))
                                obtain ⟨A2, n2, c2, B2, m2, d2, rfl, t1, t2⟩ := (hR 7 v7 m7).1 rfl
                                obtain ⟨g, rfl, hg, hr⟩ := (hR 12 v12 m12).2 rfl
                                have hst : stTB 12 7 0 us0 W6 = setAll g 0 [.int .i64 MV.1.id, .int .i64 MV.1.len, .int .i64 MV.1.gen, .slice A2 n2 c2] W6 := by unfold stTB; rw [l12, l7]; rfl
                                rw [hst]
                                have hrow := setAll_4 (a := .int .i64 MV.1.id) (b := .int .i64 MV.1.len) (c := .int .i64 MV.1.gen) (d := .slice A2 n2 c2) hr
                                have hT : Turns (fun _ => True) 79 W6 (setAll g 0 [.int .i64 MV.1.id, .int .i64 MV.1.len, .int .i64 MV.1.gen, .slice A2 n2 c2] W6) := turns_setAll trivial _ _ _ _ (Turns.refl _ _ _) (shape_of_cells hr)
                                have hB9 := setAll_below (g := g) (m := wm.heap.size) hg [.int .i64 MV.1.id, .int .i64 MV.1.len, .int .i64 MV.1.gen, .slice A2 n2 c2] 0 W6 hb
                                have q1 := hT.sl (slotE_avoids _) (by decide) t1
                                have q2 := hT.sl (slotE_avoids _) (by decide) t2
                                simp only [putAll, List.map_cons, List.map_nil, List.foldl_cons, List.foldl_nil, Act.put, List.setIfInBounds_toArray, List.set_cons_succ, List.set_cons_zero]
                                generalize hsv : slotAt _ _ _ = sv
                                have s19 : sv 19 = .pointer (some ⟨g, 0, none⟩) := by rw [← hsv]; show ((us0 ++ [(13, x0)]).lookup 12).getD undef = _; rw [lookup_mid (by decide), l12]; rfl
                                have s20 : sv 20 = .slice B2 m2 d2 := by rw [← hsv]; show tupAt 1 (((us0 ++ [(13, x0)]).lookup 7).getD undef) = _; rw [lookup_mid (by decide), l7]; rfl
                                have s21 : sv 21 = .int .i64 MV.2.2 := by rw [← hsv]; show tupAt 2 (((us0 ++ [(13, x0)]).lookup 7).getD undef) = _; rw [lookup_mid (by decide), l7]; rfl
                                rw [s19, s20, s21]
                                clear hsv s19 s20 s21 hst hb hR hn1 hW hmem l7 l12 m7 m12 hr t1 t2 hT
                                generalize setAll g 0 [.int .i64 MV.1.id, .int .i64 MV.1.len, .int .i64 MV.1.gen, .slice A2 n2 c2] W6 = w33 at *
                                have HQ1 := Lib.hid q1; clear q1
                                have HQ2 := Lib.hid q2; clear q2
                                have HROW33 := Lib.hid hrow; clear hrow
                                have HB33 := Lib.hid hB9; clear hB9
                                go_upto_region 37 with (fail)
                                have hrz := heap_alloc_new w33 (.cells #[.int .i64 0, .int .i64 0, .int .i64 0, .slice none 0 0] 79)
                                have halz : Below w33.heap.size w33 (w33.alloc (.cells #[.int .i64 0, .int .i64 0, .int .i64 0, .slice none 0 0] 79)) := (Below.refl _ _).alloc (Nat.le_refl _) _
                                have hlz : w33.heap.size < (w33.alloc (.cells #[.int .i64 0, .int .i64 0, .int .i64 0, .slice none 0 0] 79)).heap.size := by simp
                                have hgg : g < w33.heap.size := (Array.getElem?_eq_some_iff.1 HROW33.out).1
                                have hwg : wm.heap.size ≤ w33.heap.size := HB33.out.size
                                have HB36 := Lib.hid (HB33.out.trans (halz.mono HB33.out.size))
                                have HR36 := Lib.hid ((halz.block _ hgg).trans HROW33.out)
                                have HP36 := Lib.hid (HQ1.out.lt_block.all halz)
                                have HF36 := Lib.hid (HQ2.out.lt_block.all halz)
                                clear halz HQ1 HQ2 HROW33 HB33
                                generalize (w33.alloc (.cells #[.int .i64 0, .int .i64 0, .int .i64 0, .slice none 0 0] 79)) = w36 at *
                                generalize w33.heap.size = g23 at *
                                have HZ36 := Lib.hid hrz; clear hrz
                                generalize hso : stripeOk s x = so at HML
                                generalize hfb : fitsB s x nd = fb at HML
                                have HSO := Lib.hid hso; clear hso
                                have HFB := Lib.hid hfb; clear hfb
                                have LATE : Hid (∀ V, Below w36.heap.size w36 V → Below wm.heap.size wm V) := Lib.hid (fun V hV => HB36.out.trans (hV.mono HB36.out.size))
                                go_cut [176] from 160 to 177 (fun t V => t = .bool (so && fb) ∧ Hid (Below w36.heap.size w36 V))
                                case first =>
                                  cases so with
                                  | false =>
                                    refine region_free (by kernel_rfl) (by kernel_rfl) 204 rfl [160, 161, 162, 163, 164, 165, 166, 167, 168, 169, 170, 171, 172, 173, 174, 175, 176] [6] [(166, 6)]
                                      [(160, [], fun _ => .agg #[.int .i64 s.K, .int .i64 s.M, .int .i64 s.size]), (161, [], fun _ => (.pointer (some ⟨w.heap.size, 1, none⟩))), (162, [], fun _ => .slice (some ⟨bx, ox, none⟩) nx cx), (163, [], fun _ => .int .i64 (kb : Int)), (164, [], fun _ => .pointer (some ⟨bx, ox + kb * 4, none⟩)), (165, [], fun _ => .agg #[.int .i64 x.id, .int .i64 x.len, .int .i64 x.gen, .slice Ap np cp]), (167, [6], fun _ => .bool false), (168, [], fun _ => undef), (169, [], fun _ => undef), (170, [], fun _ => undef), (171, [], fun _ => undef), (172, [], fun _ => undef), (173, [], fun _ => undef), (174, [], fun _ => undef), (175, [], fun _ => undef), (176, [], fun _ => .bool false)]
                                      [] [] [[], [], [161], [], [162, 163], [164], [160, 165], [166], [167], [167], [169, 167], [167], [170, 171, 167], [172, 167], [167], [168, 173, 174, 167], [167, 175]]
                                      (WdB w36 (fun i v _ => (i = 6 → v = .bool false) ∧ (i = 15 → v = .bool fb))) (by kernel_rfl) .init ⟨?_, ?_, ?_, ?_, ?_, ?_, ?_, ?_, ?_, ?_, ?_, ?_, ?_, ?_, ?_, ?_, ?_, trivial⟩ ?_
                                    -- FAST17 cdot
                                    · (refine OpH.rd rfl rfl (fun ρ us w6 ho ht hc hl hsrc hW => ?_); have e8 := (ho 8 rfl).trans (show _ = ((.pointer (some ⟨g8, 0, none⟩)) : Value) from rfl); obtain ⟨k0, k1, k2⟩ := HSm.out w6 (LATE.out w6 hW.1); clear ht ho; simp only [execOp, e8]; go_simp; try rfl)
                                    · (refine OpH.rd rfl rfl (fun ρ us w6 ho ht hc hl hsrc hW => ?_); have e1 := (ho 1 rfl).trans (show _ = ((.pointer (some ⟨w.heap.size, 0, none⟩)) : Value) from rfl); clear ht ho; simp only [execOp, e1]; go_simp; try rfl)
                                    · (refine OpH.rd rfl rfl (fun ρ us w6 ho ht hc hl hsrc hW => ?_); have e161 := (ht 161 (by decide)).trans (show _ = ((.pointer (some ⟨w.heap.size, 1, none⟩)) : Value) from rfl); obtain ⟨y0, y1, y2, y3, y4, y5⟩ := HYm.out w6 (LATE.out w6 hW.1); clear ht ho; simp only [execOp, e161]; go_simp; try rfl)
                                    · (refine OpH.rd rfl rfl (fun ρ us w6 ho ht hc hl hsrc hW => ?_); have e16 := (ho 16 rfl).trans (show _ = (.int .i64 (kb : Int) : Value) from rfl); clear ht ho; simp only [execOp, e16]; go_simp; try rfl)
                                    · (refine OpH.rd rfl rfl (fun ρ us w6 ho ht hc hl hsrc hW => ?_); have e162 := (ht 162 (by decide)).trans (show _ = (.slice (some ⟨bx, ox, none⟩) nx cx : Value) from rfl); have e163 := (ht 163 (by decide)).trans (show _ = (.int .i64 (kb : Int) : Value) from rfl); clear ht ho; simp only [execOp, e162, e163]; go_simp; try rfl)
                                    · (refine OpH.rd rfl rfl (fun ρ us w6 ho ht hc hl hsrc hW => ?_); have e164 := (ht 164 (by decide)).trans (show _ = (.pointer (some ⟨bx, ox + kb * 4, none⟩) : Value) from rfl); obtain ⟨z0, z1, z2, z3⟩ := HXm.out w6 (LATE.out w6 hW.1); clear ht ho; simp only [execOp, e164]; go_simp; try rfl)
                                    · refine OpH.wr rfl (fun Z us w6 ho ht hni hlim hreq hW K hK => ?_)
                                      have e160 := (ht 160 (by decide)).trans (show _ = (.agg #[.int .i64 s.K, .int .i64 s.M, .int .i64 s.size] : Value) from rfl)
                                      have e165 := (ht 165 (by decide)).trans (show _ = (.agg #[.int .i64 x.id, .int .i64 x.len, .int .i64 x.gen, .slice Ap np cp] : Value) from rfl)
                                      have hcl := refStripe_c (w := w6) (s := s) (x := x) (HPm.out w6 (LATE.out w6 hW.1))
                                      rw [HSO.out] at hcl
                                      refine step_call rfl 43 #[.tmp 160, .tmp 165] #[23, 79] rfl Try.func43 (by kernel_rfl) (by kernel_rfl) #[.agg #[.int .i64 s.K, .int .i64 s.M, .int .i64 s.size], .agg #[.int .i64 x.id, .int .i64 x.len, .int .i64 x.gen, .slice Ap np cp]] (by simp [e160, e165]) (hcl) ?_
                                      rintro e w7 ⟨rfl, hb7⟩
                                      exact ⟨_, rfl, hK _ _ (hW.snoc hb7 (fun j v h => h) (⟨fun _ => rfl, fun h => absurd h (by decide)⟩))⟩
                                    · (refine OpH.rd rfl rfl (fun ρ us w6 ho ht hc hl hsrc hW => ?_); have e166 := (ht 166 (by decide)).trans (show _ = ((us.lookup 6).getD undef : Value) from rfl); rw [(hW.at_ (hsrc 6 (by exact (List.mem_singleton.2 rfl : (6 : Nat) ∈ [6])))).1 rfl] at e166; clear ht ho; simp only [execOp, e166]; go_simp; try rfl)
                                    · (exact OpH.rdn rfl 7 167 true rfl rfl (by decide) (fun _ _ _ => rfl) (fun _ => rfl))
                                    · (exact OpH.rdn rfl 7 167 true rfl rfl (by decide) (fun _ _ _ => rfl) (fun _ => rfl))
                                    · (exact OpH.rdn rfl 7 167 true rfl rfl (by decide) (fun _ _ _ => rfl) (fun _ => rfl))
                                    · (exact OpH.rdn rfl 7 167 true rfl rfl (by decide) (fun _ _ _ => rfl) (fun _ => rfl))
                                    · (exact OpH.rdn rfl 7 167 true rfl rfl (by decide) (fun _ _ _ => rfl) (fun _ => rfl))
                                    · (exact OpH.rdn rfl 7 167 true rfl rfl (by decide) (fun _ _ _ => rfl) (fun _ => rfl))
                                    · (exact OpH.rdn rfl 7 167 true rfl rfl (by decide) (fun _ _ _ => rfl) (fun _ => rfl))
                                    · (exact OpH.rdn rfl 7 167 true rfl rfl (by decide) (fun _ _ _ => rfl) (fun _ => rfl))
                                    · (refine OpH.rd rfl rfl (fun ρ us w6 ho ht hc hl hsrc hW => ?_); have e167 := (ht 167 (by decide)).trans (show _ = (.bool false : Value) from rfl); have e175 := (ht 175 (by decide)).trans (show _ = (undef : Value) from rfl); clear ht ho; simp only [execOp, e167, e175]; go_simp; try rfl)
                                    -- TSAF
                                    · intro us w9 hmem hW
                                      simp only [putAll, List.map_cons, List.map_nil, List.foldl_cons, List.foldl_nil, Act.put, List.setIfInBounds_toArray, List.set_cons_succ, List.set_cons_zero]
                                      generalize hsv : slotAt _ _ us = sv
                                      have hq : sv 176 = .bool false := by rw [← hsv]; rfl
                                      rw [hq]
                                      have HBq := Lib.hid hW.1
                                      clear hsv hq hmem hW
                                      go_wp2
                                      go_meet
                                      case rel => exact ⟨by rfl, HBq⟩
                                  | true =>
                                    refine region_free (by kernel_rfl) (by kernel_rfl) 204 rfl [160, 161, 162, 163, 164, 165, 166, 167, 168, 169, 170, 171, 172, 173, 174, 175, 176] [6, 15] [(166, 6), (175, 15)]
                                      [(160, [], fun _ => .agg #[.int .i64 s.K, .int .i64 s.M, .int .i64 s.size]), (161, [], fun _ => (.pointer (some ⟨w.heap.size, 1, none⟩))), (162, [], fun _ => .slice (some ⟨bx, ox, none⟩) nx cx), (163, [], fun _ => .int .i64 (kb : Int)), (164, [], fun _ => .pointer (some ⟨bx, ox + kb * 4, none⟩)), (165, [], fun _ => .agg #[.int .i64 x.id, .int .i64 x.len, .int .i64 x.gen, .slice Ap np cp]), (167, [6], fun _ => .bool true), (168, [], fun _ => .agg #[.int .i64 s.K, .int .i64 s.M, .int .i64 s.size]), (169, [], fun _ => (.pointer (some ⟨w.heap.size, 1, none⟩))), (170, [], fun _ => .slice (some ⟨bx, ox, none⟩) nx cx), (171, [], fun _ => .int .i64 (kb : Int)), (172, [], fun _ => .pointer (some ⟨bx, ox + kb * 4, none⟩)), (173, [], fun _ => .agg #[.int .i64 x.id, .int .i64 x.len, .int .i64 x.gen, .slice Ap np cp]), (174, [], fun _ => .agg #[.int .i64 nd.stripe, .slice Ai mi ci', .slice At mt ct']), (176, [15], fun _ => .bool fb)]
                                      [] [] [[], [], [161], [], [162, 163], [164], [160, 165], [166], [167], [167], [169, 167], [167], [170, 171, 167], [172, 167], [167], [168, 173, 174, 167], [167, 175]]
                                      (WdB w36 (fun i v _ => (i = 6 → v = .bool true) ∧ (i = 15 → v = .bool fb))) (by kernel_rfl) .init ⟨?_, ?_, ?_, ?_, ?_, ?_, ?_, ?_, ?_, ?_, ?_, ?_, ?_, ?_, ?_, ?_, ?_, trivial⟩ ?_
                                    -- FAST17 cdot
                                    · (refine OpH.rd rfl rfl (fun ρ us w6 ho ht hc hl hsrc hW => ?_); have e8 := (ho 8 rfl).trans (show _ = ((.pointer (some ⟨g8, 0, none⟩)) : Value) from rfl); obtain ⟨k0, k1, k2⟩ := HSm.out w6 (LATE.out w6 hW.1); clear ht ho; simp only [execOp, e8]; go_simp; try rfl)
                                    · (refine OpH.rd rfl rfl (fun ρ us w6 ho ht hc hl hsrc hW => ?_); have e1 := (ho 1 rfl).trans (show _ = ((.pointer (some ⟨w.heap.size, 0, none⟩)) : Value) from rfl); clear ht ho; simp only [execOp, e1]; go_simp; try rfl)
                                    · (refine OpH.rd rfl rfl (fun ρ us w6 ho ht hc hl hsrc hW => ?_); have e161 := (ht 161 (by decide)).trans (show _ = ((.pointer (some ⟨w.heap.size, 1, none⟩)) : Value) from rfl); obtain ⟨y0, y1, y2, y3, y4, y5⟩ := HYm.out w6 (LATE.out w6 hW.1); clear ht ho; simp only [execOp, e161]; go_simp; try rfl)
                                    · (refine OpH.rd rfl rfl (fun ρ us w6 ho ht hc hl hsrc hW => ?_); have e16 := (ho 16 rfl).trans (show _ = (.int .i64 (kb : Int) : Value) from rfl); clear ht ho; simp only [execOp, e16]; go_simp; try rfl)
                                    · (refine OpH.rd rfl rfl (fun ρ us w6 ho ht hc hl hsrc hW => ?_); have e162 := (ht 162 (by decide)).trans (show _ = (.slice (some ⟨bx, ox, none⟩) nx cx : Value) from rfl); have e163 := (ht 163 (by decide)).trans (show _ = (.int .i64 (kb : Int) : Value) from rfl); clear ht ho; simp only [execOp, e162, e163]; go_simp; try rfl)
                                    · (refine OpH.rd rfl rfl (fun ρ us w6 ho ht hc hl hsrc hW => ?_); have e164 := (ht 164 (by decide)).trans (show _ = (.pointer (some ⟨bx, ox + kb * 4, none⟩) : Value) from rfl); obtain ⟨z0, z1, z2, z3⟩ := HXm.out w6 (LATE.out w6 hW.1); clear ht ho; simp only [execOp, e164]; go_simp; try rfl)
                                    · refine OpH.wr rfl (fun Z us w6 ho ht hni hlim hreq hW K hK => ?_)
                                      have e160 := (ht 160 (by decide)).trans (show _ = (.agg #[.int .i64 s.K, .int .i64 s.M, .int .i64 s.size] : Value) from rfl)
                                      have e165 := (ht 165 (by decide)).trans (show _ = (.agg #[.int .i64 x.id, .int .i64 x.len, .int .i64 x.gen, .slice Ap np cp] : Value) from rfl)
                                      have hcl := refStripe_c (w := w6) (s := s) (x := x) (HPm.out w6 (LATE.out w6 hW.1))
                                      rw [HSO.out] at hcl
                                      refine step_call rfl 43 #[.tmp 160, .tmp 165] #[23, 79] rfl Try.func43 (by kernel_rfl) (by kernel_rfl) #[.agg #[.int .i64 s.K, .int .i64 s.M, .int .i64 s.size], .agg #[.int .i64 x.id, .int .i64 x.len, .int .i64 x.gen, .slice Ap np cp]] (by simp [e160, e165]) (hcl) ?_
                                      rintro e w7 ⟨rfl, hb7⟩
                                      exact ⟨_, rfl, hK _ _ (hW.snoc hb7 (fun j v h => h) (⟨fun _ => rfl, fun h => absurd h (by decide)⟩))⟩
                                    · (refine OpH.rd rfl rfl (fun ρ us w6 ho ht hc hl hsrc hW => ?_); have e166 := (ht 166 (by decide)).trans (show _ = ((us.lookup 6).getD undef : Value) from rfl); rw [(hW.at_ (hsrc 6 (by exact (List.mem_singleton.2 rfl : (6 : Nat) ∈ [6])))).1 rfl] at e166; clear ht ho; simp only [execOp, e166]; go_simp; try rfl)
                                    · (refine OpH.rdg rfl 7 167 true rfl rfl (by decide) (fun _ _ _ => rfl) (fun ρ us w6 ho ht hc hl hsrc hW => ?_); have e8 := (ho 8 rfl).trans (show _ = ((.pointer (some ⟨g8, 0, none⟩)) : Value) from rfl); obtain ⟨k0, k1, k2⟩ := HSm.out w6 (LATE.out w6 hW.1); clear ht ho; simp only [execOp, e8]; go_simp; try rfl)
                                    · (refine OpH.rdg rfl 7 167 true rfl rfl (by decide) (fun _ _ _ => rfl) (fun ρ us w6 ho ht hc hl hsrc hW => ?_); have e1 := (ho 1 rfl).trans (show _ = ((.pointer (some ⟨w.heap.size, 0, none⟩)) : Value) from rfl); clear ht ho; simp only [execOp, e1]; go_simp; try rfl)
                                    · (refine OpH.rdg rfl 7 167 true rfl rfl (by decide) (fun _ _ _ => rfl) (fun ρ us w6 ho ht hc hl hsrc hW => ?_); have e169 := (ht 169 (by decide)).trans (show _ = ((.pointer (some ⟨w.heap.size, 1, none⟩)) : Value) from rfl); obtain ⟨y0, y1, y2, y3, y4, y5⟩ := HYm.out w6 (LATE.out w6 hW.1); clear ht ho; simp only [execOp, e169]; go_simp; try rfl)
                                    · (refine OpH.rdg rfl 7 167 true rfl rfl (by decide) (fun _ _ _ => rfl) (fun ρ us w6 ho ht hc hl hsrc hW => ?_); have e16 := (ho 16 rfl).trans (show _ = (.int .i64 (kb : Int) : Value) from rfl); clear ht ho; simp only [execOp, e16]; go_simp; try rfl)
                                    · (refine OpH.rdg rfl 7 167 true rfl rfl (by decide) (fun _ _ _ => rfl) (fun ρ us w6 ho ht hc hl hsrc hW => ?_); have e170 := (ht 170 (by decide)).trans (show _ = (.slice (some ⟨bx, ox, none⟩) nx cx : Value) from rfl); have e171 := (ht 171 (by decide)).trans (show _ = (.int .i64 (kb : Int) : Value) from rfl); clear ht ho; simp only [execOp, e170, e171]; go_simp; try rfl)
                                    · (refine OpH.rdg rfl 7 167 true rfl rfl (by decide) (fun _ _ _ => rfl) (fun ρ us w6 ho ht hc hl hsrc hW => ?_); have e172 := (ht 172 (by decide)).trans (show _ = (.pointer (some ⟨bx, ox + kb * 4, none⟩) : Value) from rfl); obtain ⟨z0, z1, z2, z3⟩ := HXm.out w6 (LATE.out w6 hW.1); clear ht ho; simp only [execOp, e172]; go_simp; try rfl)
                                    · (refine OpH.rdg rfl 7 167 true rfl rfl (by decide) (fun _ _ _ => rfl) (fun ρ us w6 ho ht hc hl hsrc hW => ?_); have e18 := (ho 18 rfl).trans (show _ = ((.pointer (some ⟨wj.heap.size, 0, none⟩)) : Value) from rfl); have hr := HRm.out w6 (LATE.out w6 hW.1); have z0 := cell_of_row _ _ 0 _ _ _ hr; have z1 := cell_of_row _ _ 1 _ _ _ hr; have z2 := cell_of_row _ _ 2 _ _ _ hr; clear hr; clear ht ho; simp only [execOp, e18]; go_simp; try rfl)
                                    · refine OpH.wr rfl (fun Z us w6 ho ht hni hlim hreq hW K hK => ?_)
                                      have e168 := (ht 168 (by decide)).trans (show _ = (.agg #[.int .i64 s.K, .int .i64 s.M, .int .i64 s.size] : Value) from rfl)
                                      have e173 := (ht 173 (by decide)).trans (show _ = (.agg #[.int .i64 x.id, .int .i64 x.len, .int .i64 x.gen, .slice Ap np cp] : Value) from rfl)
                                      have e174 := (ht 174 (by decide)).trans (show _ = (.agg #[.int .i64 nd.stripe, .slice Ai mi ci', .slice At mt ct'] : Value) from rfl)
                                      have hcl := refFits_c (w := w6) (s := s) (x := x) (nd := nd) HXI.out (HPm.out w6 (LATE.out w6 hW.1)) (HIm.out w6 (LATE.out w6 hW.1)) (HTm.out w6 (LATE.out w6 hW.1)) (by omega)
                                      rw [HFB.out] at hcl
                                      have eg := (ht 167 (by decide)).trans (show _ = (.bool true : Value) from rfl)
                                      refine step_callw (GuardOk.wanted (.at_ (j := 7) (t := 167) (b := true) rfl rfl eg)) 72 #[.tmp 168, .tmp 173, .tmp 174] #[23, 79, 88] rfl Try.func72 (by kernel_rfl) (by kernel_rfl) #[.agg #[.int .i64 s.K, .int .i64 s.M, .int .i64 s.size], .agg #[.int .i64 x.id, .int .i64 x.len, .int .i64 x.gen, .slice Ap np cp], .agg #[.int .i64 nd.stripe, .slice Ai mi ci', .slice At mt ct']] (by simp [e168, e173, e174]; try rfl) hcl ?_
                                      rintro e w7 ⟨rfl, hb7⟩
                                      exact ⟨_, rfl, hK _ _ (hW.snoc hb7 (fun j v h => h) (⟨fun h => absurd h (by decide), fun _ => rfl⟩))⟩
                                    · (refine OpH.rd rfl rfl (fun ρ us w6 ho ht hc hl hsrc hW => ?_); have e167 := (ht 167 (by decide)).trans (show _ = (.bool true : Value) from rfl); have e175 := (ht 175 (by decide)).trans (show _ = ((us.lookup 15).getD undef : Value) from rfl); rw [(hW.at_ (hsrc 15 (by exact (List.mem_singleton.2 rfl : (15 : Nat) ∈ [15])))).2 rfl] at e175; clear ht ho; simp only [execOp, e167, e175]; go_simp; try rfl)
                                    -- TSAF
                                    · intro us w9 hmem hW
                                      simp only [putAll, List.map_cons, List.map_nil, List.foldl_cons, List.foldl_nil, Act.put, List.setIfInBounds_toArray, List.set_cons_succ, List.set_cons_zero]
                                      generalize hsv : slotAt _ _ us = sv
                                      have hq : sv 176 = .bool fb := by rw [← hsv]; rfl
                                      rw [hq]
                                      have HBq := Lib.hid hW.1
                                      clear hsv hq hmem hW
                                      go_wp2
                                      go_meet
                                      case rel => exact ⟨by rfl, HBq⟩
                                case rest =>
                                  rename World => w37
                                  obtain ⟨rfl, HB37⟩ := hcut
                                  have h3637 := HB37.out.size
                                  have HB937 := Lib.hid (LATE.out w37 HB37.out)
                                  have HR37 := Lib.hid ((HB37.out.block _ (show g < w36.heap.size by omega)).trans HR36.out)
                                  have HZ37 := Lib.hid ((HB37.out.block _ hlz).trans HZ36.out)
                                  have HP37 := Lib.hid (HP36.out.all HB37.out)
                                  have HF37 := Lib.hid (HF36.out.all HB37.out)
                                  have h23 : g23 < w37.heap.size := by omega
                                  clear HR36 HZ36 HP36 HF36 HB37 HB36 LATE hlz h3637
                                  generalize hbb : (so && fb) = bb at *
                                  have HBB := Lib.hid hbb; clear hbb
                                  go_upto_if 176 with (fail)
                                  rw [show decide ((kc : Int) < 5) = true from decide_eq_true (by omega)]
                                  go_cut [22, 24] from 160 to 187 (fun a b V => a = .int .i64 MV.2.2 ∧ Hid (Below g23 w37 V) ∧ ∃ A n c B m d, b = .slice B m d ∧ Hid (V.heap[g23]? = some (.cells #[.int .i64 MV.1.id, .int .i64 MV.1.len, .int .i64 MV.1.gen, .slice A n c] 79 (0, 0)) ∧ Sl true 104 slotE V (fun _ => True) A n c MV.1.place ∧ Sl true 104 slotE V (fun _ => True) B m d MV.2.1))
                                  case first =>
                                    cases bb with
                                    | false =>
                                      have HM0 : Hid (MV = (noStripe, [], 1)) := Lib.hid (by rw [HML.out, if_neg (by decide)])
                                      have HFIN : Hid (w37.heap[g23]? = some (.cells #[.int .i64 MV.1.id, .int .i64 MV.1.len, .int .i64 MV.1.gen, .slice none 0 0] 79 (0, 0)) ∧ Sl true 104 slotE w37 (fun _ => True) none 0 0 MV.1.place ∧ Sl true 104 slotE w37 (fun _ => True) none 0 0 MV.2.1) := Lib.hid (by rw [HM0.out]; exact ⟨HZ37.out, Sl.nil_ (by decide), Sl.nil_ (by decide)⟩)
                                      go_wp2
                                      go_meet
                                      case rel => exact ⟨by rw [HM0.out], Lib.hid (Below.refl _ _), none, 0, 0, none, 0, 0, rfl, HFIN⟩
                                    | true =>
                                      have HM1 : Hid (MV = (movedX x nd, pfree x nd nd.index.length, 0)) := Lib.hid (by rw [HML.out, if_pos rfl])
                                      have hff : so = true ∧ fb = true := by simpa using HBB.out
                                      obtain ⟨hmt, hix⟩ := fits_use (HFB.out.trans hff.2)
                                      have HRF : Hid (∀ V, Below w37.heap.size w37 V → Calls Try.prog 73 #[.agg #[.int .i64 x.id, .int .i64 x.len, .int .i64 x.gen, .slice Ap np cp], .agg #[.int .i64 nd.stripe, .slice Ai mi ci', .slice At mt ct']] V (RetMM V MV.1 MV.2.1)) := Lib.hid (fun V hV => by
                                        have hV2 := HB937.out.trans (hV.mono HB937.out.size)
                                        have := (HIm.out V hV2).len
                                        have := (HTm.out V hV2).len
                                        have h := refMoved_c (w := V) (x := x) (nd := nd) HXI.out (HPm.out V hV2) (HIm.out V hV2) (HTm.out V hV2) (by omega) (by omega) (by omega) hix
                                        rw [show movedX x nd = MV.1 by rw [HM1.out], show pfree x nd nd.index.length = MV.2.1 by rw [HM1.out]] at h
                                        exact h)
                                      clear hff hmt hix
                                      go_upto_region 39 with (fail)
                                      refine region_free (by kernel_rfl) (by kernel_rfl) 204 rfl [178, 179, 180, 181, 182, 183, 184, 177, 185, 186, 24] [6, 10] [(184, 6)]
                                        [(178, [], fun _ => (.pointer (some ⟨w.heap.size, 1, none⟩))), (179, [], fun _ => .slice (some ⟨bx, ox, none⟩) nx cx), (180, [], fun _ => .int .i64 (kb : Int)), (181, [], fun _ => .pointer (some ⟨bx, ox + kb * 4, none⟩)), (182, [], fun _ => .agg #[.int .i64 x.id, .int .i64 x.len, .int .i64 x.gen, .slice Ap np cp]), (183, [], fun _ => .agg #[.int .i64 nd.stripe, .slice Ai mi ci', .slice At mt ct']), (177, [6], fun l => l.getD 0 undef), (185, [6], fun l => tupAt 0 (l.getD 0 undef)), (186, [6], fun l => tupAt 1 (l.getD 0 undef)), (24, [6], fun l => tupAt 1 (l.getD 0 undef))]
                                        [[10], [10], [10], [10], [10], [10], [10], [10], [10]] [[], [], [], [], [], [], [], [], [], [], [6]] [[], [178], [], [179, 180], [181], [], [182, 183], [184], [177], [177], [185], [186]]
                                        (WdS w37 (RMw MV) 10 (stT g23 6 0)) (by kernel_rfl) .init ⟨?_, ?_, ?_, ?_, ?_, ?_, ?_, ?_, ?_, ?_, ?_, ?_, trivial⟩ ?_
                                      -- FAST12 cdot
                                      · (refine OpH.rd rfl rfl (fun ρ us w6 ho ht hc hl hsrc hW => ?_); have e1 := (ho 1 rfl).trans (show _ = ((.pointer (some ⟨w.heap.size, 0, none⟩)) : Value) from rfl); clear ht ho; simp only [execOp, e1]; go_simp; try rfl)
                                      · (refine OpH.rd rfl rfl (fun ρ us w6 ho ht hc hl hsrc hW => ?_); have e178 := (ht 178 (by decide)).trans (show _ = ((.pointer (some ⟨w.heap.size, 1, none⟩)) : Value) from rfl); obtain ⟨y0, y1, y2, y3, y4, y5⟩ := HYm.out w6 (HB937.out.trans ((hW.early (hl 10 (by decide))).1.mono HB937.out.size)); clear ht ho; simp only [execOp, e178]; go_simp; try rfl)
                                      · (refine OpH.rd rfl rfl (fun ρ us w6 ho ht hc hl hsrc hW => ?_); have e16 := (ho 16 rfl).trans (show _ = (.int .i64 (kb : Int) : Value) from rfl); clear ht ho; simp only [execOp, e16]; go_simp; try rfl)
                                      · (refine OpH.rd rfl rfl (fun ρ us w6 ho ht hc hl hsrc hW => ?_); have e179 := (ht 179 (by decide)).trans (show _ = (.slice (some ⟨bx, ox, none⟩) nx cx : Value) from rfl); have e180 := (ht 180 (by decide)).trans (show _ = (.int .i64 (kb : Int) : Value) from rfl); clear ht ho; simp only [execOp, e179, e180]; go_simp; try rfl)
                                      · (refine OpH.rd rfl rfl (fun ρ us w6 ho ht hc hl hsrc hW => ?_); have e181 := (ht 181 (by decide)).trans (show _ = (.pointer (some ⟨bx, ox + kb * 4, none⟩) : Value) from rfl); obtain ⟨z0, z1, z2, z3⟩ := HXm.out w6 (HB937.out.trans ((hW.early (hl 10 (by decide))).1.mono HB937.out.size)); clear ht ho; simp only [execOp, e181]; go_simp; try rfl)
                                      · (refine OpH.rd rfl rfl (fun ρ us w6 ho ht hc hl hsrc hW => ?_); have e18 := (ho 18 rfl).trans (show _ = ((.pointer (some ⟨wj.heap.size, 0, none⟩)) : Value) from rfl); have hr := HRm.out w6 (HB937.out.trans ((hW.early (hl 10 (by decide))).1.mono HB937.out.size)); have z0 := cell_of_row _ _ 0 _ _ _ hr; have z1 := cell_of_row _ _ 1 _ _ _ hr; have z2 := cell_of_row _ _ 2 _ _ _ hr; clear hr; clear ht ho; simp only [execOp, e18]; go_simp; try rfl)
                                      · refine OpH.wr rfl (fun Z us w6 ho ht hni hlim hreq hW K hK => ?_)
                                        have e182 := (ht 182 (by decide)).trans (show _ = (.agg #[.int .i64 x.id, .int .i64 x.len, .int .i64 x.gen, .slice Ap np cp] : Value) from rfl)
                                        have e183 := (ht 183 (by decide)).trans (show _ = (.agg #[.int .i64 nd.stripe, .slice Ai mi ci', .slice At mt ct'] : Value) from rfl)
                                        have hn := hlim 10 (by decide)
                                        have hb6 := (hW.early hn).1
                                        have hcl := HRF.out w6 hb6
                                        refine step_call rfl 73 #[.tmp 182, .tmp 183] #[79, 88] rfl Try.func73 (by kernel_rfl) (by kernel_rfl) #[.agg #[.int .i64 x.id, .int .i64 x.len, .int .i64 x.gen, .slice Ap np cp], .agg #[.int .i64 nd.stripe, .slice Ai mi ci', .slice At mt ct']] (by simp [e182, e183]) (hcl) ?_
                                        rintro e w7 ⟨A2, n2, c2, B2, m2, d2, rfl, t1, t2, hb7⟩
                                        exact ⟨_, rfl, hK _ _ (hW.snoc (by decide) hn hb7 (fun j v h => RMw.all hb7 j v h) (fun _ => ⟨_, _, _, _, _, _, rfl, t1.mono (fun _ _ _ => trivial), t2.mono (fun _ _ _ => trivial)⟩))⟩
                                      · (refine OpH.rd rfl rfl (fun ρ us w6 ho ht hc hl hsrc hW => ?_); have e184 := (ht 184 (by decide)).trans (show _ = ((us.lookup 6).getD undef : Value) from rfl); clear ht ho; simp only [execOp, e184]; go_simp; try rfl)
                                      · refine OpH.rd rfl rfl (fun ρ us w6 ho ht hc hl hsrc hW => ?_)
                                        obtain ⟨v6, W7, l6, r6⟩ := hW.ever (hsrc 6 (by exact (List.mem_singleton.2 rfl : (6 : Nat) ∈ [6]))) (by decide)
                                        obtain ⟨A2, n2, c2, B2, m2, d2, rfl, _⟩ := r6 rfl
                                        have e177 := ((ht 177 (by decide)).trans (show _ = (us.lookup 6).getD undef from rfl)).trans (show _ = (.tuple #[.agg #[.int .i64 MV.1.id, .int .i64 MV.1.len, .int .i64 MV.1.gen, .slice A2 n2 c2], .slice B2 m2 d2] : Value) by rw [l6]; rfl)
                                        change _ = Result.ok (Next.value (tupAt 0 ((us.lookup 6).getD undef))) w6
                                        rw [l6]
                                        clear ht ho hl hsrc hW l6 r6
                                        simp only [execOp, e177]
                                        go_simp
                                        rfl
                                      · refine OpH.rd rfl rfl (fun ρ us w6 ho ht hc hl hsrc hW => ?_)
                                        obtain ⟨v6, W7, l6, r6⟩ := hW.ever (hsrc 6 (by exact (List.mem_singleton.2 rfl : (6 : Nat) ∈ [6]))) (by decide)
                                        obtain ⟨A2, n2, c2, B2, m2, d2, rfl, _⟩ := r6 rfl
                                        have e177 := ((ht 177 (by decide)).trans (show _ = (us.lookup 6).getD undef from rfl)).trans (show _ = (.tuple #[.agg #[.int .i64 MV.1.id, .int .i64 MV.1.len, .int .i64 MV.1.gen, .slice A2 n2 c2], .slice B2 m2 d2] : Value) by rw [l6]; rfl)
                                        change _ = Result.ok (Next.value (tupAt 1 ((us.lookup 6).getD undef))) w6
                                        rw [l6]
                                        clear ht ho hl hsrc hW l6 r6
                                        simp only [execOp, e177]
                                        go_simp
                                        rfl
                                      · refine OpH.wr rfl (fun Z us w6 ho ht hni hlim hreq hW K hK => ?_)
                                        have hE := hW.early hni
                                        obtain ⟨v6, l6, m6⟩ := lookup_mem (hreq 6 (by decide))
                                        obtain ⟨A2, n2, c2, B2, m2, d2, rfl, _, _⟩ := hE.2 6 v6 m6 rfl
                                        have hr := (hE.1.block _ h23).trans HZ37.out
                                        have e23 := (ho 23 rfl).trans (show _ = (.pointer (some ⟨g23, 0, none⟩) : Value) from rfl)
                                        have e185 := ((ht 185 (by decide)).trans (show _ = tupAt 0 ((us.lookup 6).getD undef) from rfl)).trans (show _ = (.agg #[.int .i64 MV.1.id, .int .i64 MV.1.len, .int .i64 MV.1.gen, .slice A2 n2 c2] : Value) by rw [l6]; rfl)
                                        have hst : stT g23 6 0 us w6 = setAll g23 0 [.int .i64 MV.1.id, .int .i64 MV.1.len, .int .i64 MV.1.gen, .slice A2 n2 c2] w6 := by unfold stT; rw [l6]; rfl
                                        have hdone := hW.store hni (x := undef)
                                        rw [hst] at hdone
                                        have f0 := (cell_of_row w6 _ 0 _ _ _ hr).trans (show _ = some (Value.int .i64 0) from rfl)
                                        have f1 := (cell_of_row w6 _ 1 _ _ _ hr).trans (show _ = some (Value.int .i64 0) from rfl)
                                        have f2 := (cell_of_row w6 _ 2 _ _ _ hr).trans (show _ = some (Value.int .i64 0) from rfl)
                                        have f3 := (cell_of_row w6 _ 3 _ _ _ hr).trans (show _ = some (Value.slice none 0 0) from rfl)
                                        have f4 := frozen_of_row w6 _ 0 _ _ hr
                                        have f5 := frozen_of_row w6 _ 1 _ _ hr
                                        have f6 := frozen_of_row w6 _ 2 _ _ hr
                                        have f7 := frozen_of_row w6 _ 3 _ _ hr
                                        have HDN := Lib.hid hdone; clear hdone hW hni hlim hreq ho ht hst hr l6 m6 hE
                                        rw [if_pos (by simp [Region.wanted])]
                                        unfold Oper.wp
                                        generalize Z.eval = ρ at *
                                        simp only [execOp, e23, e185]
                                        go_simp
                                        exact hK undef _ HDN.out
                                      · (refine OpH.rd rfl rfl (fun ρ us w6 ho ht hc hl hsrc hW => ?_); have e186 := (ht 186 (by decide)).trans (show _ = (tupAt 1 ((us.lookup 6).getD undef) : Value) from rfl); clear ht ho; simp only [execOp, e186]; go_simp; try rfl)
                                      -- TSAF
                                      · intro us w9 hmem hW
                                        obtain ⟨us0, W6, x0, rfl, rfl, hb, hR, hn1⟩ := hW.last (hmem 10 (by decide))
                                        obtain ⟨v6, l6, m6⟩ := lookup_mem (before_mid (hmem 6 (by decide)) (by decide))
                                        obtain ⟨A2, n2, c2, B2, m2, d2, rfl, t1, t2⟩ := hR 6 v6 m6 rfl
                                        have hst : stT g23 6 0 us0 W6 = setAll g23 0 [.int .i64 MV.1.id, .int .i64 MV.1.len, .int .i64 MV.1.gen, .slice A2 n2 c2] W6 := by unfold stT; rw [l6]; rfl
                                        rw [hst]
                                        have hr := (hb.block _ h23).trans HZ37.out
                                        have hrow := setAll_4 (a := .int .i64 MV.1.id) (b := .int .i64 MV.1.len) (c := .int .i64 MV.1.gen) (d := .slice A2 n2 c2) hr
                                        have hT : Turns (fun _ => True) 79 W6 (setAll g23 0 [.int .i64 MV.1.id, .int .i64 MV.1.len, .int .i64 MV.1.gen, .slice A2 n2 c2] W6) := turns_setAll trivial _ _ _ _ (Turns.refl _ _ _) (shape_of_cells hr)
                                        have hB9 := setAll_below (g := g23) (m := g23) (Nat.le_refl _) [.int .i64 MV.1.id, .int .i64 MV.1.len, .int .i64 MV.1.gen, .slice A2 n2 c2] 0 W6 (hb.mono (Nat.le_of_lt h23))
                                        have HQ9 := Lib.hid (And.intro hrow (And.intro (hT.sl (slotE_avoids _) (by decide) t1) (hT.sl (slotE_avoids _) (by decide) t2)))
                                        simp only [putAll, List.map_cons, List.map_nil, List.foldl_cons, List.foldl_nil, Act.put, List.setIfInBounds_toArray, List.set_cons_succ, List.set_cons_zero]
                                        generalize hsv : slotAt _ _ _ = sv
                                        have s24 : sv 24 = .slice B2 m2 d2 := by rw [← hsv]; show tupAt 1 (((us0 ++ [(10, x0)]).lookup 6).getD undef) = _; rw [lookup_mid (by decide), l6]; rfl
                                        rw [s24]
                                        clear hsv s24 hst hb hR hn1 hW hmem l6 m6 hr t1 t2 hT hrow
                                        generalize setAll g23 0 [.int .i64 MV.1.id, .int .i64 MV.1.len, .int .i64 MV.1.gen, .slice A2 n2 c2] W6 = w39 at *
                                        have HB9 := Lib.hid hB9; clear hB9
                                        go_wp2
                                        go_meet
                                        case rel => exact ⟨by rw [HM1.out], HB9, _, _, _, _, _, _, rfl, HQ9⟩
                                  case rest =>
                                    rename World => w39
                                    obtain ⟨rfl, HB39, A, n, c, B, m, d, rfl, HQ9⟩ := hcut
                                    have hl23 : g23 < w39.heap.size := (Array.getElem?_eq_some_iff.1 HQ9.out.1).1
                                    have hl39 : g < w39.heap.size := by omega
                                    have HB939 := Lib.hid (HB937.out.trans (HB39.out.mono hwg))
                                    have KEEP := Lib.hid (fun V (hV : Below w39.heap.size w39 V) => And.intro ((hV.block _ hl39).trans ((HB39.out.block _ hgg).trans HR37.out)) (And.intro ((hV.block _ hl23).trans HQ9.out.1) (And.intro ((HP37.out.below HB39.out (fun b h _ => h.2)).all hV) (And.intro ((HF37.out.below HB39.out (fun b h _ => h.2)).all hV) (And.intro (HQ9.out.2.1.all hV) (HQ9.out.2.2.all hV))))))
                                    clear HR37 HZ37 HP37 HF37 HB39 HQ9
                                    go_wp2_with fail
                                    refine num15_c.mono ?_
                                    rintro r w40 ⟨rfl, hb40⟩
                                    have HB40 := Lib.hid hb40; clear hb40
                                    obtain ⟨r1, r2, p1, _, p2, _⟩ := KEEP.out w40 HB40.out
                                    have hq := EqStripe_c (w := w40) (x := MV.1) (y := MV.1) p1 p2
                                    rw [decide_eq_true (rfl : MV.1 = MV.1)] at hq
                                    have HQ := Lib.hid hq; clear hq
                                    have a0 := cell_of_row _ _ 0 _ _ _ r1
                                    have a1 := cell_of_row _ _ 1 _ _ _ r1
                                    have a2 := cell_of_row _ _ 2 _ _ _ r1
                                    have a3 := cell_of_row _ _ 3 _ _ _ r1
                                    have b0 := cell_of_row _ _ 0 _ _ _ r2
                                    have b1 := cell_of_row _ _ 1 _ _ _ r2
                                    have b2 := cell_of_row _ _ 2 _ _ _ r2
                                    have b3 := cell_of_row _ _ 3 _ _ _ r2
                                    clear r1 r2 p1 p2
                                    go_wp2_with fail
                                    refine HQ.out.mono ?_
                                    clear HQ a0 a1 a2 a3 b0 b1 b2 b3
                                    rintro r w41 ⟨rfl, hb41⟩
                                    have HB41 := Lib.hid (HB40.out.trans (hb41.mono HB40.out.size)); clear hb41 HB40
                                    obtain ⟨_, _, _, f1, _, f2⟩ := KEEP.out w41 HB41.out
                                    have hq := EqSlotList_c (w := w41) (xs := MV.2.1) (ys := MV.2.1) f1 f2
                                    rw [decide_eq_true (rfl : MV.2.1 = MV.2.1)] at hq
                                    have HQ := Lib.hid hq; clear hq f1 f2
                                    go_wp2_with fail
                                    refine HQ.out.mono ?_
                                    clear HQ
                                    rintro r w42 ⟨rfl, hb42⟩
                                    have HBf := Lib.hid (HBj.out.trans ((HBm.out.trans ((HB939.out.trans ((HB41.out.trans (hb42.mono HB41.out.size)).mono HB939.out.size)).mono HBm.out.size)).mono HBj.out.size))
                                    clear hb42 HB41 KEEP
                                    go_wp2
                                    exact ⟨⟨kc + 1, by omega, by go_num, HBf⟩, by simp [intOf]; omega⟩
                          · have HBf := HBij
                            go_wp2
                            exact ⟨⟨kb + 1, by omega, by go_num, HBf⟩, by simp [intOf]; omega⟩
                        · have HBf := HBij
                          go_wp2
                          exact ⟨⟨kb + 1, by omega, by go_num, HBf⟩, by simp [intOf]; omega⟩
                    · go_wp2
                      exact ⟨⟨ka + 1, by omega, by go_num, HWi⟩, by simp [intOf]; omega⟩
                  · go_wp2
                    exact ⟨⟨ka + 1, by omega, by go_num, HWi⟩, by simp [intOf]; omega⟩
          · go_wp2_with fail
            refine wakes15_c.mono ?_
            clear y0 y1 y2 y3 y4 y5
            rintro e w90 ⟨rfl, hb90⟩
            have HBf := Lib.hid (HAL.out _ (HBo.out.trans (hb90.mono HBo.out.size)))
            go_wp2
            go_ret
            exact ⟨rfl, HBf.out⟩
        · go_wp2_with fail
          refine wakes15_c.mono ?_
          clear y0 y1 y2 y3 y4 y5
          rintro e w90 ⟨rfl, hb90⟩
          have HBf := Lib.hid (HAL.out _ (HBo.out.trans (hb90.mono HBo.out.size)))
          go_wp2
          go_ret
          exact ⟨rfl, HBf.out⟩
end Go.Proofs.Ytfccghfcilccfaa
