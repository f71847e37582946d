/- siloref16.Fits: is a need of a stripe? Printed by gen_k7.py. -/
import Derived.Test.YtfccghfcilccfaaK6
import Derived.Test.YtfccghfcilccfaaE8
import Derived.Test.YtfccghfcilccfaaB5
namespace Go.Proofs.Ytfccghfcilccfaa
open Go.RowKit Go.Silo

def fitAt (x : Stripe) (nd : Need) (k : Nat) : Bool :=
  decide (0 ≤ nd.index.getD k 0 ∧ nd.index.getD k 0 ≤ (x.place.length : Int) - 1) && (!(decide (0 < k) && decide (nd.index.getD k 0 ≤ nd.index.getD (k - 1) 0)) && (decide (0 ≤ (nd.to.getD k default).disk ∧ (nd.to.getD k default).disk ≤ 11) && decide (0 ≤ (nd.to.getD k default).pos ∧ (nd.to.getD k default).pos ≤ 63)))
def fitsB (s : Shape) (x : Stripe) (nd : Need) : Bool := (decide (nd.stripe = x.id) && (decide (nd.index.length = nd.to.length) && decide (nd.index.length ≤ x.place.length))) && ((List.range nd.index.length).all (fitAt x nd) && stripeOk s (movedX x nd))
theorem fits_false {s : Shape} {x : Stripe} {nd : Need} {k : Nat} (hk : k < nd.index.length) (h : fitAt x nd k = false) : fitsB s x nd = false := by
  unfold fitsB
  have : (List.range nd.index.length).all (fitAt x nd) = false := by
    cases hh : (List.range nd.index.length).all (fitAt x nd) with
    | false => rfl
    | true => have := List.all_eq_true.1 hh k (List.mem_range.2 hk); rw [h] at this; cases this
  rw [this, Bool.false_and, Bool.and_false]
theorem fits_all {s : Shape} {x : Stripe} {nd : Need} (h1 : nd.stripe = x.id) (h2 : nd.index.length = nd.to.length) (h3 : nd.index.length ≤ x.place.length) (h : ∀ j, j < nd.index.length → fitAt x nd j = true) : fitsB s x nd = stripeOk s (movedX x nd) := by
  unfold fitsB
  rw [decide_eq_true h1, decide_eq_true h2, decide_eq_true h3, List.all_eq_true.2 fun i hi => h i (List.mem_range.1 hi)]
  rfl
theorem fitAt_idx {x : Stripe} {nd : Need} {k : Nat} (h : fitAt x nd k = true) : ∃ i : Nat, nd.index.getD k 0 = (i : Int) ∧ i < x.place.length := by
  unfold fitAt at h
  simp only [Bool.and_eq_true, decide_eq_true_eq] at h
  obtain ⟨i, hi⟩ := Int.eq_ofNat_of_zero_le h.1.1
  exact ⟨i, hi, by omega⟩
/-- What the last region gives. -/
def RFt (s : Shape) (x : Stripe) (i : Nat) (v : Value) (W : World) : Prop :=
  (i = 3 → ∃ A n c, v = .agg #[.int .i64 x.id, .int .i64 x.len, .int .i64 x.gen, .slice A n c] ∧ Sl true 104 slotE W (fun _ => True) A n c x.place) ∧ (i = 4 → v = .bool (stripeOk s x))
theorem RFt.all {s : Shape} {x : Stripe} {W W' : World} (hb : Below W.heap.size W W') (j : Nat) (v : Value) (h : RFt s x j v W) : RFt s x j v W' :=
  ⟨fun e => by obtain ⟨A, n, c, e, h⟩ := h.1 e; exact ⟨A, n, c, e, h.all hb⟩, h.2⟩

set_option maxRecDepth 100000 in
set_option maxHeartbeats 8000000 in
theorem refFits_c {tg tg0 tg1 : Bool} {S S0 S1 : Nat → Prop} {w : World} {Ap A0 A1 : Option Addr} {np cp n0 c0 n1 c1 : Nat} {s : Shape} {x : Stripe} {nd : Need}
    (hxI : I64 x.id ∧ I64 x.len ∧ I64 x.gen) (hp : Sl tg 104 slotE w S Ap np cp x.place) (h0 : Sl tg0 3 intE w S0 A0 n0 c0 nd.index) (h1 : Sl tg1 104 slotE w S1 A1 n1 c1 nd.to) (hnp : np ≤ 100000) :
    Calls Try.prog 72 #[.agg #[.int .i64 s.K, .int .i64 s.M, .int .i64 s.size], .agg #[.int .i64 x.id, .int .i64 x.len, .int .i64 x.gen, .slice Ap np cp], .agg #[.int .i64 nd.stripe, .slice A0 n0 c0, .slice A1 n1 c1]] w (RetV (.bool (fitsB s x nd)) w) := by
  have HLP := Lib.hid hp.len
  have HL0 := Lib.hid h0.len
  have HL1 := Lib.hid h1.len
  have hcap0 : n0 ≤ 9223372036854775807 := Nat.le_trans h0.le h0.cap
  have hcap1 : n1 ≤ 9223372036854775807 := Nat.le_trans h1.le h1.cap
  have HI := Lib.hid (fun W (hW : Below w.heap.size w W) => h0.all hW)
  have HTO := Lib.hid (fun W (hW : Below w.heap.size w W) => h1.all hW)
  have HMV := Lib.hid (fun (hn01 : n0 = n1) (hix : ∀ j, j < nd.index.length → ∃ i : Nat, nd.index.getD j 0 = (i : Int) ∧ i < x.place.length) W (hW : Below w.heap.size w W) => refmoved_c (w := W) (x := x) (nd := nd) hxI (hp.all hW) (h0.all hW) (h1.all hW) hnp hn01 hix)
  have hr0 : (((w.alloc (.cells #[.int .i64 s.K, .int .i64 s.M, .int .i64 s.size] 23)).alloc (.cells #[.int .i64 x.id, .int .i64 x.len, .int .i64 x.gen, .slice Ap np cp] 79)).alloc (.cells #[.int .i64 nd.stripe, .slice A0 n0 c0, .slice A1 n1 c1] 88)).heap[w.heap.size]? = some (.cells #[.int .i64 s.K, .int .i64 s.M, .int .i64 s.size] 23 (0, 0)) := (Below.heap_alloc _ _ _ (by simp; omega)).trans ((Below.heap_alloc _ _ _ (by simp)).trans (heap_alloc_new w _))
  have hr1 : (((w.alloc (.cells #[.int .i64 s.K, .int .i64 s.M, .int .i64 s.size] 23)).alloc (.cells #[.int .i64 x.id, .int .i64 x.len, .int .i64 x.gen, .slice Ap np cp] 79)).alloc (.cells #[.int .i64 nd.stripe, .slice A0 n0 c0, .slice A1 n1 c1] 88)).heap[w.heap.size + 1]? = some (.cells #[.int .i64 x.id, .int .i64 x.len, .int .i64 x.gen, .slice Ap np cp] 79 (0, 0)) := by
    have := heap_alloc_new (w.alloc (.cells #[.int .i64 s.K, .int .i64 s.M, .int .i64 s.size] 23)) (.cells #[.int .i64 x.id, .int .i64 x.len, .int .i64 x.gen, .slice Ap np cp] 79)
    rw [World.size_alloc] at this; exact (Below.heap_alloc _ _ _ (by simp)).trans this
  have hr2 : (((w.alloc (.cells #[.int .i64 s.K, .int .i64 s.M, .int .i64 s.size] 23)).alloc (.cells #[.int .i64 x.id, .int .i64 x.len, .int .i64 x.gen, .slice Ap np cp] 79)).alloc (.cells #[.int .i64 nd.stripe, .slice A0 n0 c0, .slice A1 n1 c1] 88)).heap[w.heap.size + 2]? = some (.cells #[.int .i64 nd.stripe, .slice A0 n0 c0, .slice A1 n1 c1] 88 (0, 0)) := by
    have := heap_alloc_new ((w.alloc (.cells #[.int .i64 s.K, .int .i64 s.M, .int .i64 s.size] 23)).alloc (.cells #[.int .i64 x.id, .int .i64 x.len, .int .i64 x.gen, .slice Ap np cp] 79)) (.cells #[.int .i64 nd.stripe, .slice A0 n0 c0, .slice A1 n1 c1] 88)
    rw [World.size_alloc, World.size_alloc] at this; exact this
  have hal : Below w.heap.size w (((w.alloc (.cells #[.int .i64 s.K, .int .i64 s.M, .int .i64 s.size] 23)).alloc (.cells #[.int .i64 x.id, .int .i64 x.len, .int .i64 x.gen, .slice Ap np cp] 79)).alloc (.cells #[.int .i64 nd.stripe, .slice A0 n0 c0, .slice A1 n1 c1] 88)) := (by repeat' (first | (with_reducible exact Below.refl _ _) | (with_reducible refine Below.alloc ?_ ?_ _) | (with_reducible refine Below.drew ?_) | (with_reducible refine below_drewN ?_ _) | (with_reducible refine Below.setCell ?_ ?_ _) | (refine via ?_ (by with_reducible assumption) ?_) | (refine via ?_ (below_ext _ _) ?_) | go_size))
  have hz : (((w.alloc (.cells #[.int .i64 s.K, .int .i64 s.M, .int .i64 s.size] 23)).alloc (.cells #[.int .i64 x.id, .int .i64 x.len, .int .i64 x.gen, .slice Ap np cp] 79)).alloc (.cells #[.int .i64 nd.stripe, .slice A0 n0 c0, .slice A1 n1 c1] 88)).heap.size = w.heap.size + 3 := by simp
  clear h0 h1 hp hxI
  go_enter Try.func72, Try.ntmps72
  go_upto_region 1 with (fail)
  generalize (((w.alloc (.cells #[.int .i64 s.K, .int .i64 s.M, .int .i64 s.size] 23)).alloc (.cells #[.int .i64 x.id, .int .i64 x.len, .int .i64 x.gen, .slice Ap np cp] 79)).alloc (.cells #[.int .i64 nd.stripe, .slice A0 n0 c0, .slice A1 n1 c1] 88)) = W0 at *
  have ROW := Lib.hid (fun V (hV : Below W0.heap.size W0 V) => (show (V.cell? ⟨w.heap.size, 0, none⟩ = some (.int .i64 s.K) ∧ V.cell? ⟨w.heap.size, 1, none⟩ = some (.int .i64 s.M) ∧ V.cell? ⟨w.heap.size, 2, none⟩ = some (.int .i64 s.size)) ∧ (V.cell? ⟨w.heap.size + 1, 0, none⟩ = some (.int .i64 x.id) ∧ V.cell? ⟨w.heap.size + 1, 1, none⟩ = some (.int .i64 x.len) ∧ V.cell? ⟨w.heap.size + 1, 2, none⟩ = some (.int .i64 x.gen) ∧ V.cell? ⟨w.heap.size + 1, 3, none⟩ = some (.slice Ap np cp)) ∧ (V.cell? ⟨w.heap.size + 2, 0, none⟩ = some (.int .i64 nd.stripe) ∧ V.cell? ⟨w.heap.size + 2, 1, none⟩ = some (.slice A0 n0 c0) ∧ V.cell? ⟨w.heap.size + 2, 2, none⟩ = some (.slice A1 n1 c1)) from by
    have a := (hV.block _ (by omega)).trans hr0
    have b := (hV.block _ (by omega)).trans hr1
    have c := (hV.block _ (by omega)).trans hr2
    exact ⟨⟨cell_of_row V _ 0 _ _ _ a, cell_of_row V _ 1 _ _ _ a, cell_of_row V _ 2 _ _ _ a⟩, ⟨cell_of_row V _ 0 _ _ _ b, cell_of_row V _ 1 _ _ _ b, cell_of_row V _ 2 _ _ _ b, cell_of_row V _ 3 _ _ _ b⟩, cell_of_row V _ 0 _ _ _ c, cell_of_row V _ 1 _ _ _ c, cell_of_row V _ 2 _ _ _ c⟩))
  have HALL := Lib.hid (fun W (hW : Below W0.heap.size W0 W) => hal.trans (hW.mono (by omega)))
  clear hr0 hr1 hr2 hal hz
  obtain ⟨_, ⟨x0, x1, x2, x3⟩, y0, y1, y2⟩ := ROW.out W0 (Below.refl _ _)
  by_cases hst : nd.stripe = x.id
  · have hq : (nd.stripe != x.id) = false := by simp [hst]
    have HST := Lib.hid hst; clear hst
    by_cases hln : n0 = n1
    · subst hln
      by_cases hnn : n0 ≤ np
      · go_wp2_with fail
        clear x0 x1 x2 x3 y0 y1 y2 hq
        go_loopw [7] (fun i wr => ∃ k : Nat, k ≤ n0 ∧ i = .int .i64 k ∧ Hid (Below W0.heap.size W0 wr) ∧ Hid (∀ j, j < k → fitAt x nd j = true)) (fun i _ => n0 - (intOf i).toNat)
        case atStart => exact ⟨0, Nat.zero_le _, rfl, Lib.hid (Below.refl _ _), Lib.hid (fun j hj => by omega)⟩
        case round =>
          obtain ⟨k, hk, rfl, HB, he⟩ := hrel
          obtain ⟨_, ⟨x0, x1, x2, x3⟩, y0, y1, y2⟩ := ROW.out wr HB.out
          by_cases hlt : k < n0
          · obtain ⟨bi, oi, rfl, _, hbi, gi, hci, _⟩ := (HI.out W0 (HALL.out _ (Below.refl _ _))).int_at hlt
            obtain ⟨bt, ot, rfl, _, hbt, gd, gp, hd0, hd1, _⟩ := (HTO.out W0 (HALL.out _ (Below.refl _ _))).slot_at hlt
            have hat : fitAt x nd k = (decide (0 ≤ nd.index.getD k 0 ∧ nd.index.getD k 0 ≤ (np : Int) - 1) && (!(decide (0 < k) && decide (nd.index.getD k 0 ≤ nd.index.getD (k - 1) 0)) && (decide (0 ≤ (nd.to.getD k default).disk ∧ (nd.to.getD k default).disk ≤ 11) && decide (0 ≤ (nd.to.getD k default).pos ∧ (nd.to.getD k default).pos ≤ 63)))) := by unfold fitAt; rw [HLP.out]
            have hprev : 0 < k → W0.cell? ⟨bi, oi + (k - 1), none⟩ = some (.int .i64 (nd.index.getD (k - 1) 0)) := fun h0k => by
              obtain ⟨b', off', e, _, _, g, hc, _⟩ := (HI.out W0 (HALL.out _ (Below.refl _ _))).int_at (show k - 1 < n0 by omega)
              injection e with e; injection e with e1 e2; subst e1 e2; exact hc
            have hfal := fun hf : fitAt x nd k = false => fits_false (s := s) (x := x) (nd := nd) (by have := HL0.out; omega) hf
            have hnxt := fun (hf : fitAt x nd k = true) j (hj : j < k + 1) => (show fitAt x nd j = true from by
              rcases Nat.lt_or_ge j k with hjk | hjk
              · exact he.out j hjk
              · obtain rfl : j = k := by omega
                exact hf)
            generalize nd.index.getD k 0 = i at *
            generalize nd.index.getD (k - 1) 0 = j at *
            generalize nd.to.getD k default = p at *
            have HAT := Lib.hid hat; clear hat
            have HFAL := Lib.hid hfal; clear hfal
            have HNXT := Lib.hid hnxt; clear hnxt
            have CEL := Lib.hid (fun w6 (hb : Below W0.heap.size W0 w6) => And.intro (ROW.out w6 hb).2.1.2.2.2 (And.intro (ROW.out w6 hb).2.2.2.1 (And.intro (ROW.out w6 hb).2.2.2.2 (And.intro ((hb.cell (p := ⟨bi, oi + k, none⟩) hbi).trans hci) (And.intro ((hb.cell (p := ⟨bt, ot + k * 2, none⟩) hbt).trans hd0) (And.intro ((hb.cell (p := ⟨bt, ot + k * 2 + 1, none⟩) hbt).trans hd1) (fun h0k : 0 < k => (hb.cell (p := ⟨bi, oi + (k - 1), none⟩) hbi).trans (hprev h0k))))))))
            clear hci hd0 hd1 hprev he x0 x1 x2 x3 y0 y2
            have hgi : -9223372036854775808 ≤ i ∧ i ≤ 9223372036854775807 := gi
            by_cases hi : 0 ≤ i ∧ i ≤ (np : Int) - 1
            · by_cases hk0 : 0 < k
              · have hk1 : k - 1 < n0 := by omega
                by_cases hle : i ≤ j
                · have HF2 := Lib.hid (HFAL.out (by rw [HAT.out, decide_eq_true hk0, decide_eq_true hle]; simp))
                  go_wp2_with fail
                  clear y1
                  refine region_free (by kernel_rfl) (by kernel_rfl) 92 rfl [38, 39, 40, 41, 42, 43, 44, 45, 46, 47, 48, 49, 50, 51, 52, 53, 54, 55, 56, 57, 58, 59, 60, 61, 62, 63, 64, 65, 66, 67, 68, 69, 70, 71, 72, 73, 74, 75, 76, 77, 78, 79, 80, 81, 82, 83, 84, 85, 86] [9] [(47, 9)]
                    [(38, [], fun _ => (.pointer (some ⟨w.heap.size + 2, 1, none⟩))), (39, [], fun _ => .slice (some ⟨bi, oi, none⟩) n0 c0), (40, [], fun _ => .int .i64 (k : Int)), (41, [], fun _ => .pointer (some ⟨bi, oi + k, none⟩)), (42, [], fun _ => .int .i64 i), (43, [], fun _ => (.pointer (some ⟨w.heap.size + 1, 3, none⟩))), (44, [], fun _ => .slice Ap np cp), (45, [], fun _ => .int .i64 (np : Int)), (46, [], fun _ => .int .i64 ((np : Int) - 1)), (48, [9], fun _ => .bool false), (49, [9], fun _ => .bool false), (50, [], fun _ => .int .i64 (k : Int)), (51, [], fun _ => .bool true), (52, [], fun _ => .bool true), (53, [], fun _ => (.pointer (some ⟨w.heap.size + 2, 1, none⟩))), (54, [], fun _ => .slice (some ⟨bi, oi, none⟩) n0 c0), (55, [], fun _ => .int .i64 (k : Int)), (56, [], fun _ => .int .i64 ((k - 1 : Nat) : Int)), (57, [], fun _ => .pointer (some ⟨bi, oi + (k - 1), none⟩)), (58, [], fun _ => .int .i64 j), (59, [], fun _ => (.pointer (some ⟨w.heap.size + 2, 1, none⟩))), (60, [], fun _ => .slice (some ⟨bi, oi, none⟩) n0 c0), (61, [], fun _ => .int .i64 (k : Int)), (62, [], fun _ => .pointer (some ⟨bi, oi + k, none⟩)), (63, [], fun _ => .int .i64 i), (64, [], fun _ => .bool true), (65, [], fun _ => .bool true), (66, [], fun _ => .bool true), (67, [], fun _ => .bool true), (68, [], fun _ => undef), (69, [], fun _ => undef), (70, [], fun _ => undef), (71, [], fun _ => undef), (72, [], fun _ => undef), (73, [], fun _ => undef), (74, [], fun _ => undef), (75, [], fun _ => undef), (76, [], fun _ => .bool true), (77, [], fun _ => .bool true), (78, [], fun _ => undef), (79, [], fun _ => undef), (80, [], fun _ => undef), (81, [], fun _ => undef), (82, [], fun _ => undef), (83, [], fun _ => undef), (84, [], fun _ => undef), (85, [], fun _ => undef), (86, [], fun _ => .bool true)]
                    [] [] [[], [38], [], [39, 40], [41], [], [43], [44], [45], [42, 46], [47], [48], [49], [50, 49], [51, 49], [52], [53, 52], [52], [55, 52], [54, 56, 52], [57, 52], [52], [59, 52], [52], [60, 61, 52], [62, 52], [58, 63, 52], [52, 64, 49], [49, 65], [66], [67], [68, 67], [67], [69, 70, 67], [71, 67], [72, 67], [73, 67], [74, 67], [67, 75], [76], [77], [78, 77], [77], [79, 80, 77], [81, 77], [82, 77], [83, 77], [84, 77], [77, 85]]
                    (WdB wr (fun i v _ => (i = 9 → v = .bool true) ∧ (i = 36 → v = .bool true) ∧ (i = 46 → v = .bool true))) (by kernel_rfl) .init ⟨?_, ?_, ?_, ?_, ?_, ?_, ?_, ?_, ?_, ?_, ?_, ?_, ?_, ?_, ?_, ?_, ?_, ?_, ?_, ?_, ?_, ?_, ?_, ?_, ?_, ?_, ?_, ?_, ?_, ?_, ?_, ?_, ?_, ?_, ?_, ?_, ?_, ?_, ?_, ?_, ?_, ?_, ?_, ?_, ?_, ?_, ?_, ?_, ?_, trivial⟩ ?_
                  · (refine OpH.rd rfl rfl (fun ρ us w6 ho ht hc hl hsrc hW => ?_); have e5 := (ho 5 rfl).trans (show _ = ((.pointer (some ⟨w.heap.size + 2, 0, none⟩)) : Value) from rfl); clear ht ho; simp only [execOp, e5]; go_simp; try rfl)
                  · (refine OpH.rd rfl rfl (fun ρ us w6 ho ht hc hl hsrc hW => ?_); have e38 := (ht 38 (by decide)).trans (show _ = ((.pointer (some ⟨w.heap.size + 2, 1, none⟩)) : Value) from rfl); obtain ⟨x3, y1, y2, yi, yp, yd, yq⟩ := CEL.out w6 (HB.out.trans (hW.1.mono HB.out.size)); clear ht ho; simp only [execOp, e38]; go_simp; try rfl)
                  · (refine OpH.rd rfl rfl (fun ρ us w6 ho ht hc hl hsrc hW => ?_); have e7 := (ho 7 rfl).trans (show _ = (.int .i64 (k : Int) : Value) from rfl); clear ht ho; simp only [execOp, e7]; go_simp; try rfl)
                  · (refine OpH.rd rfl rfl (fun ρ us w6 ho ht hc hl hsrc hW => ?_); have e39 := (ht 39 (by decide)).trans (show _ = (.slice (some ⟨bi, oi, none⟩) n0 c0 : Value) from rfl); have e40 := (ht 40 (by decide)).trans (show _ = (.int .i64 (k : Int) : Value) from rfl); clear ht ho; simp only [execOp, e39, e40]; go_simp; try rfl)
                  · (refine OpH.rd rfl rfl (fun ρ us w6 ho ht hc hl hsrc hW => ?_); have e41 := (ht 41 (by decide)).trans (show _ = (.pointer (some ⟨bi, oi + k, none⟩) : Value) from rfl); obtain ⟨x3, y1, y2, yi, yp, yd, yq⟩ := CEL.out w6 (HB.out.trans (hW.1.mono HB.out.size)); clear ht ho; simp only [execOp, e41]; go_simp; try rfl)
                  · (refine OpH.rd rfl rfl (fun ρ us w6 ho ht hc hl hsrc hW => ?_); have e4 := (ho 4 rfl).trans (show _ = ((.pointer (some ⟨w.heap.size + 1, 0, none⟩)) : Value) from rfl); clear ht ho; simp only [execOp, e4]; go_simp; try rfl)
                  · (refine OpH.rd rfl rfl (fun ρ us w6 ho ht hc hl hsrc hW => ?_); have e43 := (ht 43 (by decide)).trans (show _ = ((.pointer (some ⟨w.heap.size + 1, 3, none⟩)) : Value) from rfl); obtain ⟨x3, y1, y2, yi, yp, yd, yq⟩ := CEL.out w6 (HB.out.trans (hW.1.mono HB.out.size)); clear ht ho; simp only [execOp, e43]; go_simp; try rfl)
                  · (refine OpH.rd rfl rfl (fun ρ us w6 ho ht hc hl hsrc hW => ?_); have e44 := (ht 44 (by decide)).trans (show _ = (.slice Ap np cp : Value) from rfl); clear ht ho; simp only [execOp]; go_simp; try rfl)
                  · (refine OpH.rd rfl rfl (fun ρ us w6 ho ht hc hl hsrc hW => ?_); have e45 := (ht 45 (by decide)).trans (show _ = (.int .i64 (np : Int) : Value) from rfl); clear ht ho; simp only [execOp, e45]; go_simp; exact congrArg (Value.int .i64) (Go.IntWalk.i64_in _ (by omega)))
                  · refine OpH.wr rfl (fun Z us w6 ho ht hni hlim hreq hW K hK => ?_)
                    have e42 := (ht 42 (by decide)).trans (show _ = (.int .i64 i : Value) from rfl)
                    have e46 := (ht 46 (by decide)).trans (show _ = (.int .i64 ((np : Int) - 1) : Value) from rfl)
                    have hcl := Num_c (w := w6) (n := i) (m := ((np : Int) - 1))
                    rw [decide_eq_true (show 0 ≤ i ∧ i ≤ ((np : Int) - 1) by omega)] at hcl
                    refine step_call rfl 30 #[.tmp 42, .tmp 46] #[3, 3] rfl Try.func30 (by kernel_rfl) (by kernel_rfl) #[.int .i64 i, .int .i64 ((np : Int) - 1)] (by simp [e42, e46]) (hcl) ?_
                    rintro e w7 ⟨rfl, hb7⟩
                    exact ⟨_, rfl, hK _ _ (hW.snoc hb7 (fun j v h => h) (⟨fun _ => rfl, fun h => absurd h (by decide), fun h => absurd h (by decide)⟩))⟩
                  · (refine OpH.rd rfl rfl (fun ρ us w6 ho ht hc hl hsrc hW => ?_); have e47 := (ht 47 (by decide)).trans (show _ = ((us.lookup 9).getD undef : Value) from rfl); rw [(hW.at_ (hsrc 9 (by exact (List.mem_singleton.2 rfl : (9 : Nat) ∈ [9])))).1 rfl] at e47; clear ht ho; simp only [execOp, e47]; go_simp; try rfl)
                  · (refine OpH.rd rfl rfl (fun ρ us w6 ho ht hc hl hsrc hW => ?_); have e48 := (ht 48 (by decide)).trans (show _ = (.bool false : Value) from rfl); clear ht ho; simp only [execOp, e48]; go_simp; try rfl)
                  · (refine OpH.rdg rfl 11 49 false rfl rfl (by decide) (fun _ _ _ => rfl) (fun ρ us w6 ho ht hc hl hsrc hW => ?_); have e7 := (ho 7 rfl).trans (show _ = (.int .i64 (k : Int) : Value) from rfl); clear ht ho; simp only [execOp, e7]; go_simp; try rfl)
                  · (refine OpH.rdg rfl 11 49 false rfl rfl (by decide) (fun _ _ _ => rfl) (fun ρ us w6 ho ht hc hl hsrc hW => ?_); have e50 := (ht 50 (by decide)).trans (show _ = (.int .i64 (k : Int) : Value) from rfl); clear ht ho; simp only [execOp, e50]; go_simp; first | rfl | exact congrArg Value.bool (decide_eq_true (by omega)) | exact congrArg Value.bool (decide_eq_false (by omega)) | (simp; done) | (simp; omega))
                  · (refine OpH.rdg rfl 11 49 false rfl rfl (by decide) (fun _ _ _ => rfl) (fun ρ us w6 ho ht hc hl hsrc hW => ?_); have e51 := (ht 51 (by decide)).trans (show _ = (.bool true : Value) from rfl); clear ht ho; simp only [execOp, e51]; go_simp; try rfl)
                  · (refine OpH.rdg rfl 14 52 true rfl rfl (by decide) (fun _ _ _ => rfl) (fun ρ us w6 ho ht hc hl hsrc hW => ?_); have e5 := (ho 5 rfl).trans (show _ = ((.pointer (some ⟨w.heap.size + 2, 0, none⟩)) : Value) from rfl); clear ht ho; simp only [execOp, e5]; go_simp; try rfl)
                  · (refine OpH.rdg rfl 14 52 true rfl rfl (by decide) (fun _ _ _ => rfl) (fun ρ us w6 ho ht hc hl hsrc hW => ?_); have e53 := (ht 53 (by decide)).trans (show _ = ((.pointer (some ⟨w.heap.size + 2, 1, none⟩)) : Value) from rfl); obtain ⟨x3, y1, y2, yi, yp, yd, yq⟩ := CEL.out w6 (HB.out.trans (hW.1.mono HB.out.size)); clear ht ho; simp only [execOp, e53]; go_simp; try rfl)
                  · (refine OpH.rdg rfl 14 52 true rfl rfl (by decide) (fun _ _ _ => rfl) (fun ρ us w6 ho ht hc hl hsrc hW => ?_); have e7 := (ho 7 rfl).trans (show _ = (.int .i64 (k : Int) : Value) from rfl); clear ht ho; simp only [execOp, e7]; go_simp; try rfl)
                  · (refine OpH.rdg rfl 14 52 true rfl rfl (by decide) (fun _ _ _ => rfl) (fun ρ us w6 ho ht hc hl hsrc hW => ?_); have e55 := (ht 55 (by decide)).trans (show _ = (.int .i64 (k : Int) : Value) from rfl); clear ht ho; simp only [execOp, e55]; go_simp; exact (congrArg (Value.int .i64) (Go.IntWalk.i64_in _ (by omega))).trans (congrArg (Value.int .i64) (by omega)))
                  · (refine OpH.rdg rfl 14 52 true rfl rfl (by decide) (fun _ _ _ => rfl) (fun ρ us w6 ho ht hc hl hsrc hW => ?_); have e54 := (ht 54 (by decide)).trans (show _ = (.slice (some ⟨bi, oi, none⟩) n0 c0 : Value) from rfl); have e56 := (ht 56 (by decide)).trans (show _ = (.int .i64 ((k - 1 : Nat) : Int) : Value) from rfl); clear ht ho; simp only [execOp, e54, e56]; go_simp; try rfl)
                  · (refine OpH.rdg rfl 14 52 true rfl rfl (by decide) (fun _ _ _ => rfl) (fun ρ us w6 ho ht hc hl hsrc hW => ?_); have e57 := (ht 57 (by decide)).trans (show _ = (.pointer (some ⟨bi, oi + (k - 1), none⟩) : Value) from rfl); obtain ⟨x3, y1, y2, yi, yp, yd, yq⟩ := CEL.out w6 (HB.out.trans (hW.1.mono HB.out.size)); have yq := yq (by omega); clear ht ho; simp only [execOp, e57]; go_simp; try rfl)
                  · (refine OpH.rdg rfl 14 52 true rfl rfl (by decide) (fun _ _ _ => rfl) (fun ρ us w6 ho ht hc hl hsrc hW => ?_); have e5 := (ho 5 rfl).trans (show _ = ((.pointer (some ⟨w.heap.size + 2, 0, none⟩)) : Value) from rfl); clear ht ho; simp only [execOp, e5]; go_simp; try rfl)
                  · (refine OpH.rdg rfl 14 52 true rfl rfl (by decide) (fun _ _ _ => rfl) (fun ρ us w6 ho ht hc hl hsrc hW => ?_); have e59 := (ht 59 (by decide)).trans (show _ = ((.pointer (some ⟨w.heap.size + 2, 1, none⟩)) : Value) from rfl); obtain ⟨x3, y1, y2, yi, yp, yd, yq⟩ := CEL.out w6 (HB.out.trans (hW.1.mono HB.out.size)); clear ht ho; simp only [execOp, e59]; go_simp; try rfl)
                  · (refine OpH.rdg rfl 14 52 true rfl rfl (by decide) (fun _ _ _ => rfl) (fun ρ us w6 ho ht hc hl hsrc hW => ?_); have e7 := (ho 7 rfl).trans (show _ = (.int .i64 (k : Int) : Value) from rfl); clear ht ho; simp only [execOp, e7]; go_simp; try rfl)
                  · (refine OpH.rdg rfl 14 52 true rfl rfl (by decide) (fun _ _ _ => rfl) (fun ρ us w6 ho ht hc hl hsrc hW => ?_); have e60 := (ht 60 (by decide)).trans (show _ = (.slice (some ⟨bi, oi, none⟩) n0 c0 : Value) from rfl); have e61 := (ht 61 (by decide)).trans (show _ = (.int .i64 (k : Int) : Value) from rfl); clear ht ho; simp only [execOp, e60, e61]; go_simp; try rfl)
                  · (refine OpH.rdg rfl 14 52 true rfl rfl (by decide) (fun _ _ _ => rfl) (fun ρ us w6 ho ht hc hl hsrc hW => ?_); have e62 := (ht 62 (by decide)).trans (show _ = (.pointer (some ⟨bi, oi + k, none⟩) : Value) from rfl); obtain ⟨x3, y1, y2, yi, yp, yd, yq⟩ := CEL.out w6 (HB.out.trans (hW.1.mono HB.out.size)); clear ht ho; simp only [execOp, e62]; go_simp; try rfl)
                  · (refine OpH.rdg rfl 14 52 true rfl rfl (by decide) (fun _ _ _ => rfl) (fun ρ us w6 ho ht hc hl hsrc hW => ?_); have e58 := (ht 58 (by decide)).trans (show _ = (.int .i64 j : Value) from rfl); have e63 := (ht 63 (by decide)).trans (show _ = (.int .i64 i : Value) from rfl); clear ht ho; simp only [execOp, e58, e63]; go_simp; first | rfl | exact congrArg Value.bool (decide_eq_true (by omega)) | exact congrArg Value.bool (decide_eq_false (by omega)) | (simp; done) | (simp; omega))
                  · (refine OpH.rdg rfl 11 49 false rfl rfl (by decide) (fun _ _ _ => rfl) (fun ρ us w6 ho ht hc hl hsrc hW => ?_); have e52 := (ht 52 (by decide)).trans (show _ = (.bool true : Value) from rfl); have e64 := (ht 64 (by decide)).trans (show _ = (.bool true : Value) from rfl); clear ht ho; simp only [execOp, e52, e64]; go_simp; try rfl)
                  · (refine OpH.rd rfl rfl (fun ρ us w6 ho ht hc hl hsrc hW => ?_); have e49 := (ht 49 (by decide)).trans (show _ = (.bool false : Value) from rfl); have e65 := (ht 65 (by decide)).trans (show _ = (.bool true : Value) from rfl); clear ht ho; simp only [execOp, e49, e65]; go_simp; try rfl)
                  · (refine OpH.rd rfl rfl (fun ρ us w6 ho ht hc hl hsrc hW => ?_); have e66 := (ht 66 (by decide)).trans (show _ = (.bool true : Value) from rfl); clear ht ho; simp only [execOp, e66]; go_simp; try rfl)
                  · (exact OpH.rdn rfl 29 67 false rfl rfl (by decide) (fun _ _ _ => rfl) (fun _ => rfl))
                  · (exact OpH.rdn rfl 29 67 false rfl rfl (by decide) (fun _ _ _ => rfl) (fun _ => rfl))
                  · (exact OpH.rdn rfl 29 67 false rfl rfl (by decide) (fun _ _ _ => rfl) (fun _ => rfl))
                  · (exact OpH.rdn rfl 29 67 false rfl rfl (by decide) (fun _ _ _ => rfl) (fun _ => rfl))
                  · (exact OpH.rdn rfl 29 67 false rfl rfl (by decide) (fun _ _ _ => rfl) (fun _ => rfl))
                  · (exact OpH.rdn rfl 29 67 false rfl rfl (by decide) (fun _ _ _ => rfl) (fun _ => rfl))
                  · (exact OpH.rdn rfl 29 67 false rfl rfl (by decide) (fun _ _ _ => rfl) (fun _ => rfl))
                  · (exact OpH.rdn rfl 29 67 false rfl rfl (by decide) (fun _ _ _ => rfl) (fun _ => rfl))
                  · (refine OpH.rd rfl rfl (fun ρ us w6 ho ht hc hl hsrc hW => ?_); have e67 := (ht 67 (by decide)).trans (show _ = (.bool true : Value) from rfl); have e75 := (ht 75 (by decide)).trans (show _ = (undef : Value) from rfl); clear ht ho; simp only [execOp, e67, e75]; go_simp; try rfl)
                  · (refine OpH.rd rfl rfl (fun ρ us w6 ho ht hc hl hsrc hW => ?_); have e76 := (ht 76 (by decide)).trans (show _ = (.bool true : Value) from rfl); clear ht ho; simp only [execOp, e76]; go_simp; try rfl)
                  · (exact OpH.rdn rfl 39 77 false rfl rfl (by decide) (fun _ _ _ => rfl) (fun _ => rfl))
                  · (exact OpH.rdn rfl 39 77 false rfl rfl (by decide) (fun _ _ _ => rfl) (fun _ => rfl))
                  · (exact OpH.rdn rfl 39 77 false rfl rfl (by decide) (fun _ _ _ => rfl) (fun _ => rfl))
                  · (exact OpH.rdn rfl 39 77 false rfl rfl (by decide) (fun _ _ _ => rfl) (fun _ => rfl))
                  · (exact OpH.rdn rfl 39 77 false rfl rfl (by decide) (fun _ _ _ => rfl) (fun _ => rfl))
                  · (exact OpH.rdn rfl 39 77 false rfl rfl (by decide) (fun _ _ _ => rfl) (fun _ => rfl))
                  · (exact OpH.rdn rfl 39 77 false rfl rfl (by decide) (fun _ _ _ => rfl) (fun _ => rfl))
                  · (exact OpH.rdn rfl 39 77 false rfl rfl (by decide) (fun _ _ _ => rfl) (fun _ => rfl))
                  · (refine OpH.rd rfl rfl (fun ρ us w6 ho ht hc hl hsrc hW => ?_); have e77 := (ht 77 (by decide)).trans (show _ = (.bool true : Value) from rfl); have e85 := (ht 85 (by decide)).trans (show _ = (undef : Value) from rfl); clear ht ho; simp only [execOp, e77, e85]; go_simp; try rfl)
                  · intro us w9 hmem hW
                    simp only [putAll, List.map_cons, List.map_nil, List.foldl_cons, List.foldl_nil, Act.put, List.setIfInBounds_toArray, List.set_cons_succ, List.set_cons_zero]
                    generalize hsv : slotAt _ _ us = sv
                    have hq : sv 86 = .bool true := by rw [← hsv]; rfl
                    rw [hq]
                    have HB := Lib.hid (HB.out.trans (hW.1.mono HB.out.size))
                    clear hsv hq hmem hW
                    clear CEL
                    go_wp2
                    go_ret
                    exact ⟨by rw [HF2.out]; rfl, HALL.out _ HB.out⟩
                · by_cases hdk : 0 ≤ p.disk ∧ p.disk ≤ 11
                  · by_cases hps : 0 ≤ p.pos ∧ p.pos ≤ 63
                    · have HF2 := Lib.hid (HNXT.out (by rw [HAT.out, decide_eq_true hi, decide_eq_false hle, decide_eq_true hdk, decide_eq_true hps]; simp))
                      go_wp2_with fail
                      clear y1
                      refine region_free (by kernel_rfl) (by kernel_rfl) 92 rfl [38, 39, 40, 41, 42, 43, 44, 45, 46, 47, 48, 49, 50, 51, 52, 53, 54, 55, 56, 57, 58, 59, 60, 61, 62, 63, 64, 65, 66, 67, 68, 69, 70, 71, 72, 73, 74, 75, 76, 77, 78, 79, 80, 81, 82, 83, 84, 85, 86] [9, 36, 46] [(47, 9), (74, 36), (84, 46)]
                        [(38, [], fun _ => (.pointer (some ⟨w.heap.size + 2, 1, none⟩))), (39, [], fun _ => .slice (some ⟨bi, oi, none⟩) n0 c0), (40, [], fun _ => .int .i64 (k : Int)), (41, [], fun _ => .pointer (some ⟨bi, oi + k, none⟩)), (42, [], fun _ => .int .i64 i), (43, [], fun _ => (.pointer (some ⟨w.heap.size + 1, 3, none⟩))), (44, [], fun _ => .slice Ap np cp), (45, [], fun _ => .int .i64 (np : Int)), (46, [], fun _ => .int .i64 ((np : Int) - 1)), (48, [9], fun _ => .bool false), (49, [9], fun _ => .bool false), (50, [], fun _ => .int .i64 (k : Int)), (51, [], fun _ => .bool true), (52, [], fun _ => .bool true), (53, [], fun _ => (.pointer (some ⟨w.heap.size + 2, 1, none⟩))), (54, [], fun _ => .slice (some ⟨bi, oi, none⟩) n0 c0), (55, [], fun _ => .int .i64 (k : Int)), (56, [], fun _ => .int .i64 ((k - 1 : Nat) : Int)), (57, [], fun _ => .pointer (some ⟨bi, oi + (k - 1), none⟩)), (58, [], fun _ => .int .i64 j), (59, [], fun _ => (.pointer (some ⟨w.heap.size + 2, 1, none⟩))), (60, [], fun _ => .slice (some ⟨bi, oi, none⟩) n0 c0), (61, [], fun _ => .int .i64 (k : Int)), (62, [], fun _ => .pointer (some ⟨bi, oi + k, none⟩)), (63, [], fun _ => .int .i64 i), (64, [], fun _ => .bool false), (65, [], fun _ => .bool false), (66, [], fun _ => .bool false), (67, [], fun _ => .bool false), (68, [], fun _ => (.pointer (some ⟨w.heap.size + 2, 2, none⟩))), (69, [], fun _ => .slice (some ⟨bt, ot, none⟩) n0 c1), (70, [], fun _ => .int .i64 (k : Int)), (71, [], fun _ => .pointer (some ⟨bt, ot + k * 2, none⟩)), (72, [], fun _ => .pointer (some ⟨bt, ot + k * 2, none⟩)), (73, [], fun _ => .int .i64 p.disk), (75, [36], fun _ => .bool false), (76, [36], fun _ => .bool false), (77, [36], fun _ => .bool false), (78, [], fun _ => (.pointer (some ⟨w.heap.size + 2, 2, none⟩))), (79, [], fun _ => .slice (some ⟨bt, ot, none⟩) n0 c1), (80, [], fun _ => .int .i64 (k : Int)), (81, [], fun _ => .pointer (some ⟨bt, ot + k * 2, none⟩)), (82, [], fun _ => .pointer (some ⟨bt, ot + k * 2 + 1, none⟩)), (83, [], fun _ => .int .i64 p.pos), (85, [46], fun _ => .bool false), (86, [46], fun _ => .bool false)]
                        [] [] [[], [38], [], [39, 40], [41], [], [43], [44], [45], [42, 46], [47], [48], [49], [50, 49], [51, 49], [52], [53, 52], [52], [55, 52], [54, 56, 52], [57, 52], [52], [59, 52], [52], [60, 61, 52], [62, 52], [58, 63, 52], [52, 64, 49], [49, 65], [66], [67], [68, 67], [67], [69, 70, 67], [71, 67], [72, 67], [73, 67], [74, 67], [67, 75], [76], [77], [78, 77], [77], [79, 80, 77], [81, 77], [82, 77], [83, 77], [84, 77], [77, 85]]
                        (WdB wr (fun i v _ => (i = 9 → v = .bool true) ∧ (i = 36 → v = .bool true) ∧ (i = 46 → v = .bool true))) (by kernel_rfl) .init ⟨?_, ?_, ?_, ?_, ?_, ?_, ?_, ?_, ?_, ?_, ?_, ?_, ?_, ?_, ?_, ?_, ?_, ?_, ?_, ?_, ?_, ?_, ?_, ?_, ?_, ?_, ?_, ?_, ?_, ?_, ?_, ?_, ?_, ?_, ?_, ?_, ?_, ?_, ?_, ?_, ?_, ?_, ?_, ?_, ?_, ?_, ?_, ?_, ?_, trivial⟩ ?_
                      · (refine OpH.rd rfl rfl (fun ρ us w6 ho ht hc hl hsrc hW => ?_); have e5 := (ho 5 rfl).trans (show _ = ((.pointer (some ⟨w.heap.size + 2, 0, none⟩)) : Value) from rfl); clear ht ho; simp only [execOp, e5]; go_simp; try rfl)
                      · (refine OpH.rd rfl rfl (fun ρ us w6 ho ht hc hl hsrc hW => ?_); have e38 := (ht 38 (by decide)).trans (show _ = ((.pointer (some ⟨w.heap.size + 2, 1, none⟩)) : Value) from rfl); obtain ⟨x3, y1, y2, yi, yp, yd, yq⟩ := CEL.out w6 (HB.out.trans (hW.1.mono HB.out.size)); clear ht ho; simp only [execOp, e38]; go_simp; try rfl)
                      · (refine OpH.rd rfl rfl (fun ρ us w6 ho ht hc hl hsrc hW => ?_); have e7 := (ho 7 rfl).trans (show _ = (.int .i64 (k : Int) : Value) from rfl); clear ht ho; simp only [execOp, e7]; go_simp; try rfl)
                      · (refine OpH.rd rfl rfl (fun ρ us w6 ho ht hc hl hsrc hW => ?_); have e39 := (ht 39 (by decide)).trans (show _ = (.slice (some ⟨bi, oi, none⟩) n0 c0 : Value) from rfl); have e40 := (ht 40 (by decide)).trans (show _ = (.int .i64 (k : Int) : Value) from rfl); clear ht ho; simp only [execOp, e39, e40]; go_simp; try rfl)
                      · (refine OpH.rd rfl rfl (fun ρ us w6 ho ht hc hl hsrc hW => ?_); have e41 := (ht 41 (by decide)).trans (show _ = (.pointer (some ⟨bi, oi + k, none⟩) : Value) from rfl); obtain ⟨x3, y1, y2, yi, yp, yd, yq⟩ := CEL.out w6 (HB.out.trans (hW.1.mono HB.out.size)); clear ht ho; simp only [execOp, e41]; go_simp; try rfl)
                      · (refine OpH.rd rfl rfl (fun ρ us w6 ho ht hc hl hsrc hW => ?_); have e4 := (ho 4 rfl).trans (show _ = ((.pointer (some ⟨w.heap.size + 1, 0, none⟩)) : Value) from rfl); clear ht ho; simp only [execOp, e4]; go_simp; try rfl)
                      · (refine OpH.rd rfl rfl (fun ρ us w6 ho ht hc hl hsrc hW => ?_); have e43 := (ht 43 (by decide)).trans (show _ = ((.pointer (some ⟨w.heap.size + 1, 3, none⟩)) : Value) from rfl); obtain ⟨x3, y1, y2, yi, yp, yd, yq⟩ := CEL.out w6 (HB.out.trans (hW.1.mono HB.out.size)); clear ht ho; simp only [execOp, e43]; go_simp; try rfl)
                      · (refine OpH.rd rfl rfl (fun ρ us w6 ho ht hc hl hsrc hW => ?_); have e44 := (ht 44 (by decide)).trans (show _ = (.slice Ap np cp : Value) from rfl); clear ht ho; simp only [execOp]; go_simp; try rfl)
                      · (refine OpH.rd rfl rfl (fun ρ us w6 ho ht hc hl hsrc hW => ?_); have e45 := (ht 45 (by decide)).trans (show _ = (.int .i64 (np : Int) : Value) from rfl); clear ht ho; simp only [execOp, e45]; go_simp; exact congrArg (Value.int .i64) (Go.IntWalk.i64_in _ (by omega)))
                      · refine OpH.wr rfl (fun Z us w6 ho ht hni hlim hreq hW K hK => ?_)
                        have e42 := (ht 42 (by decide)).trans (show _ = (.int .i64 i : Value) from rfl)
                        have e46 := (ht 46 (by decide)).trans (show _ = (.int .i64 ((np : Int) - 1) : Value) from rfl)
                        have hcl := Num_c (w := w6) (n := i) (m := ((np : Int) - 1))
                        rw [decide_eq_true (show 0 ≤ i ∧ i ≤ ((np : Int) - 1) by omega)] at hcl
                        refine step_call rfl 30 #[.tmp 42, .tmp 46] #[3, 3] rfl Try.func30 (by kernel_rfl) (by kernel_rfl) #[.int .i64 i, .int .i64 ((np : Int) - 1)] (by simp [e42, e46]) (hcl) ?_
                        rintro e w7 ⟨rfl, hb7⟩
                        exact ⟨_, rfl, hK _ _ (hW.snoc hb7 (fun j v h => h) (⟨fun _ => rfl, fun h => absurd h (by decide), fun h => absurd h (by decide)⟩))⟩
                      · (refine OpH.rd rfl rfl (fun ρ us w6 ho ht hc hl hsrc hW => ?_); have e47 := (ht 47 (by decide)).trans (show _ = ((us.lookup 9).getD undef : Value) from rfl); rw [(hW.at_ (hsrc 9 (by exact (List.mem_singleton.2 rfl : (9 : Nat) ∈ [9])))).1 rfl] at e47; clear ht ho; simp only [execOp, e47]; go_simp; try rfl)
                      · (refine OpH.rd rfl rfl (fun ρ us w6 ho ht hc hl hsrc hW => ?_); have e48 := (ht 48 (by decide)).trans (show _ = (.bool false : Value) from rfl); clear ht ho; simp only [execOp, e48]; go_simp; try rfl)
                      · (refine OpH.rdg rfl 11 49 false rfl rfl (by decide) (fun _ _ _ => rfl) (fun ρ us w6 ho ht hc hl hsrc hW => ?_); have e7 := (ho 7 rfl).trans (show _ = (.int .i64 (k : Int) : Value) from rfl); clear ht ho; simp only [execOp, e7]; go_simp; try rfl)
                      · (refine OpH.rdg rfl 11 49 false rfl rfl (by decide) (fun _ _ _ => rfl) (fun ρ us w6 ho ht hc hl hsrc hW => ?_); have e50 := (ht 50 (by decide)).trans (show _ = (.int .i64 (k : Int) : Value) from rfl); clear ht ho; simp only [execOp, e50]; go_simp; first | rfl | exact congrArg Value.bool (decide_eq_true (by omega)) | exact congrArg Value.bool (decide_eq_false (by omega)) | (simp; done) | (simp; omega))
                      · (refine OpH.rdg rfl 11 49 false rfl rfl (by decide) (fun _ _ _ => rfl) (fun ρ us w6 ho ht hc hl hsrc hW => ?_); have e51 := (ht 51 (by decide)).trans (show _ = (.bool true : Value) from rfl); clear ht ho; simp only [execOp, e51]; go_simp; try rfl)
                      · (refine OpH.rdg rfl 14 52 true rfl rfl (by decide) (fun _ _ _ => rfl) (fun ρ us w6 ho ht hc hl hsrc hW => ?_); have e5 := (ho 5 rfl).trans (show _ = ((.pointer (some ⟨w.heap.size + 2, 0, none⟩)) : Value) from rfl); clear ht ho; simp only [execOp, e5]; go_simp; try rfl)
                      · (refine OpH.rdg rfl 14 52 true rfl rfl (by decide) (fun _ _ _ => rfl) (fun ρ us w6 ho ht hc hl hsrc hW => ?_); have e53 := (ht 53 (by decide)).trans (show _ = ((.pointer (some ⟨w.heap.size + 2, 1, none⟩)) : Value) from rfl); obtain ⟨x3, y1, y2, yi, yp, yd, yq⟩ := CEL.out w6 (HB.out.trans (hW.1.mono HB.out.size)); clear ht ho; simp only [execOp, e53]; go_simp; try rfl)
                      · (refine OpH.rdg rfl 14 52 true rfl rfl (by decide) (fun _ _ _ => rfl) (fun ρ us w6 ho ht hc hl hsrc hW => ?_); have e7 := (ho 7 rfl).trans (show _ = (.int .i64 (k : Int) : Value) from rfl); clear ht ho; simp only [execOp, e7]; go_simp; try rfl)
                      · (refine OpH.rdg rfl 14 52 true rfl rfl (by decide) (fun _ _ _ => rfl) (fun ρ us w6 ho ht hc hl hsrc hW => ?_); have e55 := (ht 55 (by decide)).trans (show _ = (.int .i64 (k : Int) : Value) from rfl); clear ht ho; simp only [execOp, e55]; go_simp; exact (congrArg (Value.int .i64) (Go.IntWalk.i64_in _ (by omega))).trans (congrArg (Value.int .i64) (by omega)))
                      · (refine OpH.rdg rfl 14 52 true rfl rfl (by decide) (fun _ _ _ => rfl) (fun ρ us w6 ho ht hc hl hsrc hW => ?_); have e54 := (ht 54 (by decide)).trans (show _ = (.slice (some ⟨bi, oi, none⟩) n0 c0 : Value) from rfl); have e56 := (ht 56 (by decide)).trans (show _ = (.int .i64 ((k - 1 : Nat) : Int) : Value) from rfl); clear ht ho; simp only [execOp, e54, e56]; go_simp; try rfl)
                      · (refine OpH.rdg rfl 14 52 true rfl rfl (by decide) (fun _ _ _ => rfl) (fun ρ us w6 ho ht hc hl hsrc hW => ?_); have e57 := (ht 57 (by decide)).trans (show _ = (.pointer (some ⟨bi, oi + (k - 1), none⟩) : Value) from rfl); obtain ⟨x3, y1, y2, yi, yp, yd, yq⟩ := CEL.out w6 (HB.out.trans (hW.1.mono HB.out.size)); have yq := yq (by omega); clear ht ho; simp only [execOp, e57]; go_simp; try rfl)
                      · (refine OpH.rdg rfl 14 52 true rfl rfl (by decide) (fun _ _ _ => rfl) (fun ρ us w6 ho ht hc hl hsrc hW => ?_); have e5 := (ho 5 rfl).trans (show _ = ((.pointer (some ⟨w.heap.size + 2, 0, none⟩)) : Value) from rfl); clear ht ho; simp only [execOp, e5]; go_simp; try rfl)
                      · (refine OpH.rdg rfl 14 52 true rfl rfl (by decide) (fun _ _ _ => rfl) (fun ρ us w6 ho ht hc hl hsrc hW => ?_); have e59 := (ht 59 (by decide)).trans (show _ = ((.pointer (some ⟨w.heap.size + 2, 1, none⟩)) : Value) from rfl); obtain ⟨x3, y1, y2, yi, yp, yd, yq⟩ := CEL.out w6 (HB.out.trans (hW.1.mono HB.out.size)); clear ht ho; simp only [execOp, e59]; go_simp; try rfl)
                      · (refine OpH.rdg rfl 14 52 true rfl rfl (by decide) (fun _ _ _ => rfl) (fun ρ us w6 ho ht hc hl hsrc hW => ?_); have e7 := (ho 7 rfl).trans (show _ = (.int .i64 (k : Int) : Value) from rfl); clear ht ho; simp only [execOp, e7]; go_simp; try rfl)
                      · (refine OpH.rdg rfl 14 52 true rfl rfl (by decide) (fun _ _ _ => rfl) (fun ρ us w6 ho ht hc hl hsrc hW => ?_); have e60 := (ht 60 (by decide)).trans (show _ = (.slice (some ⟨bi, oi, none⟩) n0 c0 : Value) from rfl); have e61 := (ht 61 (by decide)).trans (show _ = (.int .i64 (k : Int) : Value) from rfl); clear ht ho; simp only [execOp, e60, e61]; go_simp; try rfl)
                      · (refine OpH.rdg rfl 14 52 true rfl rfl (by decide) (fun _ _ _ => rfl) (fun ρ us w6 ho ht hc hl hsrc hW => ?_); have e62 := (ht 62 (by decide)).trans (show _ = (.pointer (some ⟨bi, oi + k, none⟩) : Value) from rfl); obtain ⟨x3, y1, y2, yi, yp, yd, yq⟩ := CEL.out w6 (HB.out.trans (hW.1.mono HB.out.size)); clear ht ho; simp only [execOp, e62]; go_simp; try rfl)
                      · (refine OpH.rdg rfl 14 52 true rfl rfl (by decide) (fun _ _ _ => rfl) (fun ρ us w6 ho ht hc hl hsrc hW => ?_); have e58 := (ht 58 (by decide)).trans (show _ = (.int .i64 j : Value) from rfl); have e63 := (ht 63 (by decide)).trans (show _ = (.int .i64 i : Value) from rfl); clear ht ho; simp only [execOp, e58, e63]; go_simp; first | rfl | exact congrArg Value.bool (decide_eq_true (by omega)) | exact congrArg Value.bool (decide_eq_false (by omega)) | (simp; done) | (simp; omega))
                      · (refine OpH.rdg rfl 11 49 false rfl rfl (by decide) (fun _ _ _ => rfl) (fun ρ us w6 ho ht hc hl hsrc hW => ?_); have e52 := (ht 52 (by decide)).trans (show _ = (.bool true : Value) from rfl); have e64 := (ht 64 (by decide)).trans (show _ = (.bool false : Value) from rfl); clear ht ho; simp only [execOp, e52, e64]; go_simp; try rfl)
                      · (refine OpH.rd rfl rfl (fun ρ us w6 ho ht hc hl hsrc hW => ?_); have e49 := (ht 49 (by decide)).trans (show _ = (.bool false : Value) from rfl); have e65 := (ht 65 (by decide)).trans (show _ = (.bool false : Value) from rfl); clear ht ho; simp only [execOp, e49, e65]; go_simp; try rfl)
                      · (refine OpH.rd rfl rfl (fun ρ us w6 ho ht hc hl hsrc hW => ?_); have e66 := (ht 66 (by decide)).trans (show _ = (.bool false : Value) from rfl); clear ht ho; simp only [execOp, e66]; go_simp; try rfl)
                      · (refine OpH.rdg rfl 29 67 false rfl rfl (by decide) (fun _ _ _ => rfl) (fun ρ us w6 ho ht hc hl hsrc hW => ?_); have e5 := (ho 5 rfl).trans (show _ = ((.pointer (some ⟨w.heap.size + 2, 0, none⟩)) : Value) from rfl); clear ht ho; simp only [execOp, e5]; go_simp; try rfl)
                      · (refine OpH.rdg rfl 29 67 false rfl rfl (by decide) (fun _ _ _ => rfl) (fun ρ us w6 ho ht hc hl hsrc hW => ?_); have e68 := (ht 68 (by decide)).trans (show _ = ((.pointer (some ⟨w.heap.size + 2, 2, none⟩)) : Value) from rfl); obtain ⟨x3, y1, y2, yi, yp, yd, yq⟩ := CEL.out w6 (HB.out.trans (hW.1.mono HB.out.size)); clear ht ho; simp only [execOp, e68]; go_simp; try rfl)
                      · (refine OpH.rdg rfl 29 67 false rfl rfl (by decide) (fun _ _ _ => rfl) (fun ρ us w6 ho ht hc hl hsrc hW => ?_); have e7 := (ho 7 rfl).trans (show _ = (.int .i64 (k : Int) : Value) from rfl); clear ht ho; simp only [execOp, e7]; go_simp; try rfl)
                      · (refine OpH.rdg rfl 29 67 false rfl rfl (by decide) (fun _ _ _ => rfl) (fun ρ us w6 ho ht hc hl hsrc hW => ?_); have e69 := (ht 69 (by decide)).trans (show _ = (.slice (some ⟨bt, ot, none⟩) n0 c1 : Value) from rfl); have e70 := (ht 70 (by decide)).trans (show _ = (.int .i64 (k : Int) : Value) from rfl); clear ht ho; simp only [execOp, e69, e70]; go_simp; try rfl)
                      · (refine OpH.rdg rfl 29 67 false rfl rfl (by decide) (fun _ _ _ => rfl) (fun ρ us w6 ho ht hc hl hsrc hW => ?_); have e71 := (ht 71 (by decide)).trans (show _ = (.pointer (some ⟨bt, ot + k * 2, none⟩) : Value) from rfl); clear ht ho; simp only [execOp, e71]; go_simp; try rfl)
                      · (refine OpH.rdg rfl 29 67 false rfl rfl (by decide) (fun _ _ _ => rfl) (fun ρ us w6 ho ht hc hl hsrc hW => ?_); have e72 := (ht 72 (by decide)).trans (show _ = (.pointer (some ⟨bt, ot + k * 2, none⟩) : Value) from rfl); obtain ⟨x3, y1, y2, yi, yp, yd, yq⟩ := CEL.out w6 (HB.out.trans (hW.1.mono HB.out.size)); clear ht ho; simp only [execOp, e72]; go_simp; try rfl)
                      · refine OpH.wr rfl (fun Z us w6 ho ht hni hlim hreq hW K hK => ?_)
                        have e73 := (ht 73 (by decide)).trans (show _ = (.int .i64 p.disk : Value) from rfl)
                        have hcl := Num_c (w := w6) (n := p.disk) (m := 11)
                        rw [decide_eq_true (show 0 ≤ p.disk ∧ p.disk ≤ 11 by omega)] at hcl
                        have eg := (ht 67 (by decide)).trans (show _ = (.bool false : Value) from rfl)
                        refine step_callw (GuardOk.wanted (.at_ (j := 29) (t := 67) (b := false) rfl rfl eg)) 30 #[.tmp 73, .const (.int .i64 11)] #[3, 3] rfl Try.func30 (by kernel_rfl) (by kernel_rfl) #[.int .i64 p.disk, .int .i64 11] (by simp [e73]; try rfl) hcl ?_
                        rintro e w7 ⟨rfl, hb7⟩
                        exact ⟨_, rfl, hK _ _ (hW.snoc hb7 (fun j v h => h) (⟨fun h => absurd h (by decide), fun _ => rfl, fun h => absurd h (by decide)⟩))⟩
                      · (refine OpH.rdg rfl 29 67 false rfl rfl (by decide) (fun _ _ _ => rfl) (fun ρ us w6 ho ht hc hl hsrc hW => ?_); have e74 := (ht 74 (by decide)).trans (show _ = ((us.lookup 36).getD undef : Value) from rfl); rw [(hW.at_ (hsrc 36 (by exact (List.mem_singleton.2 rfl : (36 : Nat) ∈ [36])))).2.1 rfl] at e74; clear ht ho; simp only [execOp, e74]; go_simp; try rfl)
                      · (refine OpH.rd rfl rfl (fun ρ us w6 ho ht hc hl hsrc hW => ?_); have e67 := (ht 67 (by decide)).trans (show _ = (.bool false : Value) from rfl); have e75 := (ht 75 (by decide)).trans (show _ = (.bool false : Value) from rfl); clear ht ho; simp only [execOp, e67, e75]; go_simp; try rfl)
                      · (refine OpH.rd rfl rfl (fun ρ us w6 ho ht hc hl hsrc hW => ?_); have e76 := (ht 76 (by decide)).trans (show _ = (.bool false : Value) from rfl); clear ht ho; simp only [execOp, e76]; go_simp; try rfl)
                      · (refine OpH.rdg rfl 39 77 false rfl rfl (by decide) (fun _ _ _ => rfl) (fun ρ us w6 ho ht hc hl hsrc hW => ?_); have e5 := (ho 5 rfl).trans (show _ = ((.pointer (some ⟨w.heap.size + 2, 0, none⟩)) : Value) from rfl); clear ht ho; simp only [execOp, e5]; go_simp; try rfl)
                      · (refine OpH.rdg rfl 39 77 false rfl rfl (by decide) (fun _ _ _ => rfl) (fun ρ us w6 ho ht hc hl hsrc hW => ?_); have e78 := (ht 78 (by decide)).trans (show _ = ((.pointer (some ⟨w.heap.size + 2, 2, none⟩)) : Value) from rfl); obtain ⟨x3, y1, y2, yi, yp, yd, yq⟩ := CEL.out w6 (HB.out.trans (hW.1.mono HB.out.size)); clear ht ho; simp only [execOp, e78]; go_simp; try rfl)
                      · (refine OpH.rdg rfl 39 77 false rfl rfl (by decide) (fun _ _ _ => rfl) (fun ρ us w6 ho ht hc hl hsrc hW => ?_); have e7 := (ho 7 rfl).trans (show _ = (.int .i64 (k : Int) : Value) from rfl); clear ht ho; simp only [execOp, e7]; go_simp; try rfl)
                      · (refine OpH.rdg rfl 39 77 false rfl rfl (by decide) (fun _ _ _ => rfl) (fun ρ us w6 ho ht hc hl hsrc hW => ?_); have e79 := (ht 79 (by decide)).trans (show _ = (.slice (some ⟨bt, ot, none⟩) n0 c1 : Value) from rfl); have e80 := (ht 80 (by decide)).trans (show _ = (.int .i64 (k : Int) : Value) from rfl); clear ht ho; simp only [execOp, e79, e80]; go_simp; try rfl)
                      · (refine OpH.rdg rfl 39 77 false rfl rfl (by decide) (fun _ _ _ => rfl) (fun ρ us w6 ho ht hc hl hsrc hW => ?_); have e81 := (ht 81 (by decide)).trans (show _ = (.pointer (some ⟨bt, ot + k * 2, none⟩) : Value) from rfl); clear ht ho; simp only [execOp, e81]; go_simp; try rfl)
                      · (refine OpH.rdg rfl 39 77 false rfl rfl (by decide) (fun _ _ _ => rfl) (fun ρ us w6 ho ht hc hl hsrc hW => ?_); have e82 := (ht 82 (by decide)).trans (show _ = (.pointer (some ⟨bt, ot + k * 2 + 1, none⟩) : Value) from rfl); obtain ⟨x3, y1, y2, yi, yp, yd, yq⟩ := CEL.out w6 (HB.out.trans (hW.1.mono HB.out.size)); clear ht ho; simp only [execOp, e82]; go_simp; try rfl)
                      · refine OpH.wr rfl (fun Z us w6 ho ht hni hlim hreq hW K hK => ?_)
                        have e83 := (ht 83 (by decide)).trans (show _ = (.int .i64 p.pos : Value) from rfl)
                        have hcl := Num_c (w := w6) (n := p.pos) (m := 63)
                        rw [decide_eq_true (show 0 ≤ p.pos ∧ p.pos ≤ 63 by omega)] at hcl
                        have eg := (ht 77 (by decide)).trans (show _ = (.bool false : Value) from rfl)
                        refine step_callw (GuardOk.wanted (.at_ (j := 39) (t := 77) (b := false) rfl rfl eg)) 30 #[.tmp 83, .const (.int .i64 63)] #[3, 3] rfl Try.func30 (by kernel_rfl) (by kernel_rfl) #[.int .i64 p.pos, .int .i64 63] (by simp [e83]; try rfl) hcl ?_
                        rintro e w7 ⟨rfl, hb7⟩
                        exact ⟨_, rfl, hK _ _ (hW.snoc hb7 (fun j v h => h) (⟨fun h => absurd h (by decide), fun h => absurd h (by decide), fun _ => rfl⟩))⟩
                      · (refine OpH.rdg rfl 39 77 false rfl rfl (by decide) (fun _ _ _ => rfl) (fun ρ us w6 ho ht hc hl hsrc hW => ?_); have e84 := (ht 84 (by decide)).trans (show _ = ((us.lookup 46).getD undef : Value) from rfl); rw [(hW.at_ (hsrc 46 (by exact (List.mem_singleton.2 rfl : (46 : Nat) ∈ [46])))).2.2 rfl] at e84; clear ht ho; simp only [execOp, e84]; go_simp; try rfl)
                      · (refine OpH.rd rfl rfl (fun ρ us w6 ho ht hc hl hsrc hW => ?_); have e77 := (ht 77 (by decide)).trans (show _ = (.bool false : Value) from rfl); have e85 := (ht 85 (by decide)).trans (show _ = (.bool false : Value) from rfl); clear ht ho; simp only [execOp, e77, e85]; go_simp; try rfl)
                      · intro us w9 hmem hW
                        simp only [putAll, List.map_cons, List.map_nil, List.foldl_cons, List.foldl_nil, Act.put, List.setIfInBounds_toArray, List.set_cons_succ, List.set_cons_zero]
                        generalize hsv : slotAt _ _ us = sv
                        have hq : sv 86 = .bool false := by rw [← hsv]; rfl
                        rw [hq]
                        have HB := Lib.hid (HB.out.trans (hW.1.mono HB.out.size))
                        clear hsv hq hmem hW
                        clear CEL
                        go_wp2
                        exact ⟨⟨k + 1, by omega, by go_num, HB, HF2⟩, by simp [intOf]; omega⟩
                    · have HF2 := Lib.hid (HFAL.out (by rw [HAT.out, decide_eq_false hps]; simp))
                      go_wp2_with fail
                      clear y1
                      refine region_free (by kernel_rfl) (by kernel_rfl) 92 rfl [38, 39, 40, 41, 42, 43, 44, 45, 46, 47, 48, 49, 50, 51, 52, 53, 54, 55, 56, 57, 58, 59, 60, 61, 62, 63, 64, 65, 66, 67, 68, 69, 70, 71, 72, 73, 74, 75, 76, 77, 78, 79, 80, 81, 82, 83, 84, 85, 86] [9, 36, 46] [(47, 9), (74, 36), (84, 46)]
                        [(38, [], fun _ => (.pointer (some ⟨w.heap.size + 2, 1, none⟩))), (39, [], fun _ => .slice (some ⟨bi, oi, none⟩) n0 c0), (40, [], fun _ => .int .i64 (k : Int)), (41, [], fun _ => .pointer (some ⟨bi, oi + k, none⟩)), (42, [], fun _ => .int .i64 i), (43, [], fun _ => (.pointer (some ⟨w.heap.size + 1, 3, none⟩))), (44, [], fun _ => .slice Ap np cp), (45, [], fun _ => .int .i64 (np : Int)), (46, [], fun _ => .int .i64 ((np : Int) - 1)), (48, [9], fun _ => .bool false), (49, [9], fun _ => .bool false), (50, [], fun _ => .int .i64 (k : Int)), (51, [], fun _ => .bool true), (52, [], fun _ => .bool true), (53, [], fun _ => (.pointer (some ⟨w.heap.size + 2, 1, none⟩))), (54, [], fun _ => .slice (some ⟨bi, oi, none⟩) n0 c0), (55, [], fun _ => .int .i64 (k : Int)), (56, [], fun _ => .int .i64 ((k - 1 : Nat) : Int)), (57, [], fun _ => .pointer (some ⟨bi, oi + (k - 1), none⟩)), (58, [], fun _ => .int .i64 j), (59, [], fun _ => (.pointer (some ⟨w.heap.size + 2, 1, none⟩))), (60, [], fun _ => .slice (some ⟨bi, oi, none⟩) n0 c0), (61, [], fun _ => .int .i64 (k : Int)), (62, [], fun _ => .pointer (some ⟨bi, oi + k, none⟩)), (63, [], fun _ => .int .i64 i), (64, [], fun _ => .bool false), (65, [], fun _ => .bool false), (66, [], fun _ => .bool false), (67, [], fun _ => .bool false), (68, [], fun _ => (.pointer (some ⟨w.heap.size + 2, 2, none⟩))), (69, [], fun _ => .slice (some ⟨bt, ot, none⟩) n0 c1), (70, [], fun _ => .int .i64 (k : Int)), (71, [], fun _ => .pointer (some ⟨bt, ot + k * 2, none⟩)), (72, [], fun _ => .pointer (some ⟨bt, ot + k * 2, none⟩)), (73, [], fun _ => .int .i64 p.disk), (75, [36], fun _ => .bool false), (76, [36], fun _ => .bool false), (77, [36], fun _ => .bool false), (78, [], fun _ => (.pointer (some ⟨w.heap.size + 2, 2, none⟩))), (79, [], fun _ => .slice (some ⟨bt, ot, none⟩) n0 c1), (80, [], fun _ => .int .i64 (k : Int)), (81, [], fun _ => .pointer (some ⟨bt, ot + k * 2, none⟩)), (82, [], fun _ => .pointer (some ⟨bt, ot + k * 2 + 1, none⟩)), (83, [], fun _ => .int .i64 p.pos), (85, [46], fun _ => .bool true), (86, [46], fun _ => .bool true)]
                        [] [] [[], [38], [], [39, 40], [41], [], [43], [44], [45], [42, 46], [47], [48], [49], [50, 49], [51, 49], [52], [53, 52], [52], [55, 52], [54, 56, 52], [57, 52], [52], [59, 52], [52], [60, 61, 52], [62, 52], [58, 63, 52], [52, 64, 49], [49, 65], [66], [67], [68, 67], [67], [69, 70, 67], [71, 67], [72, 67], [73, 67], [74, 67], [67, 75], [76], [77], [78, 77], [77], [79, 80, 77], [81, 77], [82, 77], [83, 77], [84, 77], [77, 85]]
                        (WdB wr (fun i v _ => (i = 9 → v = .bool true) ∧ (i = 36 → v = .bool true) ∧ (i = 46 → v = .bool false))) (by kernel_rfl) .init ⟨?_, ?_, ?_, ?_, ?_, ?_, ?_, ?_, ?_, ?_, ?_, ?_, ?_, ?_, ?_, ?_, ?_, ?_, ?_, ?_, ?_, ?_, ?_, ?_, ?_, ?_, ?_, ?_, ?_, ?_, ?_, ?_, ?_, ?_, ?_, ?_, ?_, ?_, ?_, ?_, ?_, ?_, ?_, ?_, ?_, ?_, ?_, ?_, ?_, trivial⟩ ?_
                      · (refine OpH.rd rfl rfl (fun ρ us w6 ho ht hc hl hsrc hW => ?_); have e5 := (ho 5 rfl).trans (show _ = ((.pointer (some ⟨w.heap.size + 2, 0, none⟩)) : Value) from rfl); clear ht ho; simp only [execOp, e5]; go_simp; try rfl)
                      · (refine OpH.rd rfl rfl (fun ρ us w6 ho ht hc hl hsrc hW => ?_); have e38 := (ht 38 (by decide)).trans (show _ = ((.pointer (some ⟨w.heap.size + 2, 1, none⟩)) : Value) from rfl); obtain ⟨x3, y1, y2, yi, yp, yd, yq⟩ := CEL.out w6 (HB.out.trans (hW.1.mono HB.out.size)); clear ht ho; simp only [execOp, e38]; go_simp; try rfl)
                      · (refine OpH.rd rfl rfl (fun ρ us w6 ho ht hc hl hsrc hW => ?_); have e7 := (ho 7 rfl).trans (show _ = (.int .i64 (k : Int) : Value) from rfl); clear ht ho; simp only [execOp, e7]; go_simp; try rfl)
                      · (refine OpH.rd rfl rfl (fun ρ us w6 ho ht hc hl hsrc hW => ?_); have e39 := (ht 39 (by decide)).trans (show _ = (.slice (some ⟨bi, oi, none⟩) n0 c0 : Value) from rfl); have e40 := (ht 40 (by decide)).trans (show _ = (.int .i64 (k : Int) : Value) from rfl); clear ht ho; simp only [execOp, e39, e40]; go_simp; try rfl)
                      · (refine OpH.rd rfl rfl (fun ρ us w6 ho ht hc hl hsrc hW => ?_); have e41 := (ht 41 (by decide)).trans (show _ = (.pointer (some ⟨bi, oi + k, none⟩) : Value) from rfl); obtain ⟨x3, y1, y2, yi, yp, yd, yq⟩ := CEL.out w6 (HB.out.trans (hW.1.mono HB.out.size)); clear ht ho; simp only [execOp, e41]; go_simp; try rfl)
                      · (refine OpH.rd rfl rfl (fun ρ us w6 ho ht hc hl hsrc hW => ?_); have e4 := (ho 4 rfl).trans (show _ = ((.pointer (some ⟨w.heap.size + 1, 0, none⟩)) : Value) from rfl); clear ht ho; simp only [execOp, e4]; go_simp; try rfl)
                      · (refine OpH.rd rfl rfl (fun ρ us w6 ho ht hc hl hsrc hW => ?_); have e43 := (ht 43 (by decide)).trans (show _ = ((.pointer (some ⟨w.heap.size + 1, 3, none⟩)) : Value) from rfl); obtain ⟨x3, y1, y2, yi, yp, yd, yq⟩ := CEL.out w6 (HB.out.trans (hW.1.mono HB.out.size)); clear ht ho; simp only [execOp, e43]; go_simp; try rfl)
                      · (refine OpH.rd rfl rfl (fun ρ us w6 ho ht hc hl hsrc hW => ?_); have e44 := (ht 44 (by decide)).trans (show _ = (.slice Ap np cp : Value) from rfl); clear ht ho; simp only [execOp]; go_simp; try rfl)
                      · (refine OpH.rd rfl rfl (fun ρ us w6 ho ht hc hl hsrc hW => ?_); have e45 := (ht 45 (by decide)).trans (show _ = (.int .i64 (np : Int) : Value) from rfl); clear ht ho; simp only [execOp, e45]; go_simp; exact congrArg (Value.int .i64) (Go.IntWalk.i64_in _ (by omega)))
                      · refine OpH.wr rfl (fun Z us w6 ho ht hni hlim hreq hW K hK => ?_)
                        have e42 := (ht 42 (by decide)).trans (show _ = (.int .i64 i : Value) from rfl)
                        have e46 := (ht 46 (by decide)).trans (show _ = (.int .i64 ((np : Int) - 1) : Value) from rfl)
                        have hcl := Num_c (w := w6) (n := i) (m := ((np : Int) - 1))
                        rw [decide_eq_true (show 0 ≤ i ∧ i ≤ ((np : Int) - 1) by omega)] at hcl
                        refine step_call rfl 30 #[.tmp 42, .tmp 46] #[3, 3] rfl Try.func30 (by kernel_rfl) (by kernel_rfl) #[.int .i64 i, .int .i64 ((np : Int) - 1)] (by simp [e42, e46]) (hcl) ?_
                        rintro e w7 ⟨rfl, hb7⟩
                        exact ⟨_, rfl, hK _ _ (hW.snoc hb7 (fun j v h => h) (⟨fun _ => rfl, fun h => absurd h (by decide), fun h => absurd h (by decide)⟩))⟩
                      · (refine OpH.rd rfl rfl (fun ρ us w6 ho ht hc hl hsrc hW => ?_); have e47 := (ht 47 (by decide)).trans (show _ = ((us.lookup 9).getD undef : Value) from rfl); rw [(hW.at_ (hsrc 9 (by exact (List.mem_singleton.2 rfl : (9 : Nat) ∈ [9])))).1 rfl] at e47; clear ht ho; simp only [execOp, e47]; go_simp; try rfl)
                      · (refine OpH.rd rfl rfl (fun ρ us w6 ho ht hc hl hsrc hW => ?_); have e48 := (ht 48 (by decide)).trans (show _ = (.bool false : Value) from rfl); clear ht ho; simp only [execOp, e48]; go_simp; try rfl)
                      · (refine OpH.rdg rfl 11 49 false rfl rfl (by decide) (fun _ _ _ => rfl) (fun ρ us w6 ho ht hc hl hsrc hW => ?_); have e7 := (ho 7 rfl).trans (show _ = (.int .i64 (k : Int) : Value) from rfl); clear ht ho; simp only [execOp, e7]; go_simp; try rfl)
                      · (refine OpH.rdg rfl 11 49 false rfl rfl (by decide) (fun _ _ _ => rfl) (fun ρ us w6 ho ht hc hl hsrc hW => ?_); have e50 := (ht 50 (by decide)).trans (show _ = (.int .i64 (k : Int) : Value) from rfl); clear ht ho; simp only [execOp, e50]; go_simp; first | rfl | exact congrArg Value.bool (decide_eq_true (by omega)) | exact congrArg Value.bool (decide_eq_false (by omega)) | (simp; done) | (simp; omega))
                      · (refine OpH.rdg rfl 11 49 false rfl rfl (by decide) (fun _ _ _ => rfl) (fun ρ us w6 ho ht hc hl hsrc hW => ?_); have e51 := (ht 51 (by decide)).trans (show _ = (.bool true : Value) from rfl); clear ht ho; simp only [execOp, e51]; go_simp; try rfl)
                      · (refine OpH.rdg rfl 14 52 true rfl rfl (by decide) (fun _ _ _ => rfl) (fun ρ us w6 ho ht hc hl hsrc hW => ?_); have e5 := (ho 5 rfl).trans (show _ = ((.pointer (some ⟨w.heap.size + 2, 0, none⟩)) : Value) from rfl); clear ht ho; simp only [execOp, e5]; go_simp; try rfl)
                      · (refine OpH.rdg rfl 14 52 true rfl rfl (by decide) (fun _ _ _ => rfl) (fun ρ us w6 ho ht hc hl hsrc hW => ?_); have e53 := (ht 53 (by decide)).trans (show _ = ((.pointer (some ⟨w.heap.size + 2, 1, none⟩)) : Value) from rfl); obtain ⟨x3, y1, y2, yi, yp, yd, yq⟩ := CEL.out w6 (HB.out.trans (hW.1.mono HB.out.size)); clear ht ho; simp only [execOp, e53]; go_simp; try rfl)
                      · (refine OpH.rdg rfl 14 52 true rfl rfl (by decide) (fun _ _ _ => rfl) (fun ρ us w6 ho ht hc hl hsrc hW => ?_); have e7 := (ho 7 rfl).trans (show _ = (.int .i64 (k : Int) : Value) from rfl); clear ht ho; simp only [execOp, e7]; go_simp; try rfl)
                      · (refine OpH.rdg rfl 14 52 true rfl rfl (by decide) (fun _ _ _ => rfl) (fun ρ us w6 ho ht hc hl hsrc hW => ?_); have e55 := (ht 55 (by decide)).trans (show _ = (.int .i64 (k : Int) : Value) from rfl); clear ht ho; simp only [execOp, e55]; go_simp; exact (congrArg (Value.int .i64) (Go.IntWalk.i64_in _ (by omega))).trans (congrArg (Value.int .i64) (by omega)))
                      · (refine OpH.rdg rfl 14 52 true rfl rfl (by decide) (fun _ _ _ => rfl) (fun ρ us w6 ho ht hc hl hsrc hW => ?_); have e54 := (ht 54 (by decide)).trans (show _ = (.slice (some ⟨bi, oi, none⟩) n0 c0 : Value) from rfl); have e56 := (ht 56 (by decide)).trans (show _ = (.int .i64 ((k - 1 : Nat) : Int) : Value) from rfl); clear ht ho; simp only [execOp, e54, e56]; go_simp; try rfl)
                      · (refine OpH.rdg rfl 14 52 true rfl rfl (by decide) (fun _ _ _ => rfl) (fun ρ us w6 ho ht hc hl hsrc hW => ?_); have e57 := (ht 57 (by decide)).trans (show _ = (.pointer (some ⟨bi, oi + (k - 1), none⟩) : Value) from rfl); obtain ⟨x3, y1, y2, yi, yp, yd, yq⟩ := CEL.out w6 (HB.out.trans (hW.1.mono HB.out.size)); have yq := yq (by omega); clear ht ho; simp only [execOp, e57]; go_simp; try rfl)
                      · (refine OpH.rdg rfl 14 52 true rfl rfl (by decide) (fun _ _ _ => rfl) (fun ρ us w6 ho ht hc hl hsrc hW => ?_); have e5 := (ho 5 rfl).trans (show _ = ((.pointer (some ⟨w.heap.size + 2, 0, none⟩)) : Value) from rfl); clear ht ho; simp only [execOp, e5]; go_simp; try rfl)
                      · (refine OpH.rdg rfl 14 52 true rfl rfl (by decide) (fun _ _ _ => rfl) (fun ρ us w6 ho ht hc hl hsrc hW => ?_); have e59 := (ht 59 (by decide)).trans (show _ = ((.pointer (some ⟨w.heap.size + 2, 1, none⟩)) : Value) from rfl); obtain ⟨x3, y1, y2, yi, yp, yd, yq⟩ := CEL.out w6 (HB.out.trans (hW.1.mono HB.out.size)); clear ht ho; simp only [execOp, e59]; go_simp; try rfl)
                      · (refine OpH.rdg rfl 14 52 true rfl rfl (by decide) (fun _ _ _ => rfl) (fun ρ us w6 ho ht hc hl hsrc hW => ?_); have e7 := (ho 7 rfl).trans (show _ = (.int .i64 (k : Int) : Value) from rfl); clear ht ho; simp only [execOp, e7]; go_simp; try rfl)
                      · (refine OpH.rdg rfl 14 52 true rfl rfl (by decide) (fun _ _ _ => rfl) (fun ρ us w6 ho ht hc hl hsrc hW => ?_); have e60 := (ht 60 (by decide)).trans (show _ = (.slice (some ⟨bi, oi, none⟩) n0 c0 : Value) from rfl); have e61 := (ht 61 (by decide)).trans (show _ = (.int .i64 (k : Int) : Value) from rfl); clear ht ho; simp only [execOp, e60, e61]; go_simp; try rfl)
                      · (refine OpH.rdg rfl 14 52 true rfl rfl (by decide) (fun _ _ _ => rfl) (fun ρ us w6 ho ht hc hl hsrc hW => ?_); have e62 := (ht 62 (by decide)).trans (show _ = (.pointer (some ⟨bi, oi + k, none⟩) : Value) from rfl); obtain ⟨x3, y1, y2, yi, yp, yd, yq⟩ := CEL.out w6 (HB.out.trans (hW.1.mono HB.out.size)); clear ht ho; simp only [execOp, e62]; go_simp; try rfl)
                      · (refine OpH.rdg rfl 14 52 true rfl rfl (by decide) (fun _ _ _ => rfl) (fun ρ us w6 ho ht hc hl hsrc hW => ?_); have e58 := (ht 58 (by decide)).trans (show _ = (.int .i64 j : Value) from rfl); have e63 := (ht 63 (by decide)).trans (show _ = (.int .i64 i : Value) from rfl); clear ht ho; simp only [execOp, e58, e63]; go_simp; first | rfl | exact congrArg Value.bool (decide_eq_true (by omega)) | exact congrArg Value.bool (decide_eq_false (by omega)) | (simp; done) | (simp; omega))
                      · (refine OpH.rdg rfl 11 49 false rfl rfl (by decide) (fun _ _ _ => rfl) (fun ρ us w6 ho ht hc hl hsrc hW => ?_); have e52 := (ht 52 (by decide)).trans (show _ = (.bool true : Value) from rfl); have e64 := (ht 64 (by decide)).trans (show _ = (.bool false : Value) from rfl); clear ht ho; simp only [execOp, e52, e64]; go_simp; try rfl)
                      · (refine OpH.rd rfl rfl (fun ρ us w6 ho ht hc hl hsrc hW => ?_); have e49 := (ht 49 (by decide)).trans (show _ = (.bool false : Value) from rfl); have e65 := (ht 65 (by decide)).trans (show _ = (.bool false : Value) from rfl); clear ht ho; simp only [execOp, e49, e65]; go_simp; try rfl)
                      · (refine OpH.rd rfl rfl (fun ρ us w6 ho ht hc hl hsrc hW => ?_); have e66 := (ht 66 (by decide)).trans (show _ = (.bool false : Value) from rfl); clear ht ho; simp only [execOp, e66]; go_simp; try rfl)
                      · (refine OpH.rdg rfl 29 67 false rfl rfl (by decide) (fun _ _ _ => rfl) (fun ρ us w6 ho ht hc hl hsrc hW => ?_); have e5 := (ho 5 rfl).trans (show _ = ((.pointer (some ⟨w.heap.size + 2, 0, none⟩)) : Value) from rfl); clear ht ho; simp only [execOp, e5]; go_simp; try rfl)
                      · (refine OpH.rdg rfl 29 67 false rfl rfl (by decide) (fun _ _ _ => rfl) (fun ρ us w6 ho ht hc hl hsrc hW => ?_); have e68 := (ht 68 (by decide)).trans (show _ = ((.pointer (some ⟨w.heap.size + 2, 2, none⟩)) : Value) from rfl); obtain ⟨x3, y1, y2, yi, yp, yd, yq⟩ := CEL.out w6 (HB.out.trans (hW.1.mono HB.out.size)); clear ht ho; simp only [execOp, e68]; go_simp; try rfl)
                      · (refine OpH.rdg rfl 29 67 false rfl rfl (by decide) (fun _ _ _ => rfl) (fun ρ us w6 ho ht hc hl hsrc hW => ?_); have e7 := (ho 7 rfl).trans (show _ = (.int .i64 (k : Int) : Value) from rfl); clear ht ho; simp only [execOp, e7]; go_simp; try rfl)
                      · (refine OpH.rdg rfl 29 67 false rfl rfl (by decide) (fun _ _ _ => rfl) (fun ρ us w6 ho ht hc hl hsrc hW => ?_); have e69 := (ht 69 (by decide)).trans (show _ = (.slice (some ⟨bt, ot, none⟩) n0 c1 : Value) from rfl); have e70 := (ht 70 (by decide)).trans (show _ = (.int .i64 (k : Int) : Value) from rfl); clear ht ho; simp only [execOp, e69, e70]; go_simp; try rfl)
                      · (refine OpH.rdg rfl 29 67 false rfl rfl (by decide) (fun _ _ _ => rfl) (fun ρ us w6 ho ht hc hl hsrc hW => ?_); have e71 := (ht 71 (by decide)).trans (show _ = (.pointer (some ⟨bt, ot + k * 2, none⟩) : Value) from rfl); clear ht ho; simp only [execOp, e71]; go_simp; try rfl)
                      · (refine OpH.rdg rfl 29 67 false rfl rfl (by decide) (fun _ _ _ => rfl) (fun ρ us w6 ho ht hc hl hsrc hW => ?_); have e72 := (ht 72 (by decide)).trans (show _ = (.pointer (some ⟨bt, ot + k * 2, none⟩) : Value) from rfl); obtain ⟨x3, y1, y2, yi, yp, yd, yq⟩ := CEL.out w6 (HB.out.trans (hW.1.mono HB.out.size)); clear ht ho; simp only [execOp, e72]; go_simp; try rfl)
                      · refine OpH.wr rfl (fun Z us w6 ho ht hni hlim hreq hW K hK => ?_)
                        have e73 := (ht 73 (by decide)).trans (show _ = (.int .i64 p.disk : Value) from rfl)
                        have hcl := Num_c (w := w6) (n := p.disk) (m := 11)
                        rw [decide_eq_true (show 0 ≤ p.disk ∧ p.disk ≤ 11 by omega)] at hcl
                        have eg := (ht 67 (by decide)).trans (show _ = (.bool false : Value) from rfl)
                        refine step_callw (GuardOk.wanted (.at_ (j := 29) (t := 67) (b := false) rfl rfl eg)) 30 #[.tmp 73, .const (.int .i64 11)] #[3, 3] rfl Try.func30 (by kernel_rfl) (by kernel_rfl) #[.int .i64 p.disk, .int .i64 11] (by simp [e73]; try rfl) hcl ?_
                        rintro e w7 ⟨rfl, hb7⟩
                        exact ⟨_, rfl, hK _ _ (hW.snoc hb7 (fun j v h => h) (⟨fun h => absurd h (by decide), fun _ => rfl, fun h => absurd h (by decide)⟩))⟩
                      · (refine OpH.rdg rfl 29 67 false rfl rfl (by decide) (fun _ _ _ => rfl) (fun ρ us w6 ho ht hc hl hsrc hW => ?_); have e74 := (ht 74 (by decide)).trans (show _ = ((us.lookup 36).getD undef : Value) from rfl); rw [(hW.at_ (hsrc 36 (by exact (List.mem_singleton.2 rfl : (36 : Nat) ∈ [36])))).2.1 rfl] at e74; clear ht ho; simp only [execOp, e74]; go_simp; try rfl)
                      · (refine OpH.rd rfl rfl (fun ρ us w6 ho ht hc hl hsrc hW => ?_); have e67 := (ht 67 (by decide)).trans (show _ = (.bool false : Value) from rfl); have e75 := (ht 75 (by decide)).trans (show _ = (.bool false : Value) from rfl); clear ht ho; simp only [execOp, e67, e75]; go_simp; try rfl)
                      · (refine OpH.rd rfl rfl (fun ρ us w6 ho ht hc hl hsrc hW => ?_); have e76 := (ht 76 (by decide)).trans (show _ = (.bool false : Value) from rfl); clear ht ho; simp only [execOp, e76]; go_simp; try rfl)
                      · (refine OpH.rdg rfl 39 77 false rfl rfl (by decide) (fun _ _ _ => rfl) (fun ρ us w6 ho ht hc hl hsrc hW => ?_); have e5 := (ho 5 rfl).trans (show _ = ((.pointer (some ⟨w.heap.size + 2, 0, none⟩)) : Value) from rfl); clear ht ho; simp only [execOp, e5]; go_simp; try rfl)
                      · (refine OpH.rdg rfl 39 77 false rfl rfl (by decide) (fun _ _ _ => rfl) (fun ρ us w6 ho ht hc hl hsrc hW => ?_); have e78 := (ht 78 (by decide)).trans (show _ = ((.pointer (some ⟨w.heap.size + 2, 2, none⟩)) : Value) from rfl); obtain ⟨x3, y1, y2, yi, yp, yd, yq⟩ := CEL.out w6 (HB.out.trans (hW.1.mono HB.out.size)); clear ht ho; simp only [execOp, e78]; go_simp; try rfl)
                      · (refine OpH.rdg rfl 39 77 false rfl rfl (by decide) (fun _ _ _ => rfl) (fun ρ us w6 ho ht hc hl hsrc hW => ?_); have e7 := (ho 7 rfl).trans (show _ = (.int .i64 (k : Int) : Value) from rfl); clear ht ho; simp only [execOp, e7]; go_simp; try rfl)
                      · (refine OpH.rdg rfl 39 77 false rfl rfl (by decide) (fun _ _ _ => rfl) (fun ρ us w6 ho ht hc hl hsrc hW => ?_); have e79 := (ht 79 (by decide)).trans (show _ = (.slice (some ⟨bt, ot, none⟩) n0 c1 : Value) from rfl); have e80 := (ht 80 (by decide)).trans (show _ = (.int .i64 (k : Int) : Value) from rfl); clear ht ho; simp only [execOp, e79, e80]; go_simp; try rfl)
                      · (refine OpH.rdg rfl 39 77 false rfl rfl (by decide) (fun _ _ _ => rfl) (fun ρ us w6 ho ht hc hl hsrc hW => ?_); have e81 := (ht 81 (by decide)).trans (show _ = (.pointer (some ⟨bt, ot + k * 2, none⟩) : Value) from rfl); clear ht ho; simp only [execOp, e81]; go_simp; try rfl)
                      · (refine OpH.rdg rfl 39 77 false rfl rfl (by decide) (fun _ _ _ => rfl) (fun ρ us w6 ho ht hc hl hsrc hW => ?_); have e82 := (ht 82 (by decide)).trans (show _ = (.pointer (some ⟨bt, ot + k * 2 + 1, none⟩) : Value) from rfl); obtain ⟨x3, y1, y2, yi, yp, yd, yq⟩ := CEL.out w6 (HB.out.trans (hW.1.mono HB.out.size)); clear ht ho; simp only [execOp, e82]; go_simp; try rfl)
                      · refine OpH.wr rfl (fun Z us w6 ho ht hni hlim hreq hW K hK => ?_)
                        have e83 := (ht 83 (by decide)).trans (show _ = (.int .i64 p.pos : Value) from rfl)
                        have hcl := Num_c (w := w6) (n := p.pos) (m := 63)
                        rw [decide_eq_false (show ¬ (0 ≤ p.pos ∧ p.pos ≤ 63) by omega)] at hcl
                        have eg := (ht 77 (by decide)).trans (show _ = (.bool false : Value) from rfl)
                        refine step_callw (GuardOk.wanted (.at_ (j := 39) (t := 77) (b := false) rfl rfl eg)) 30 #[.tmp 83, .const (.int .i64 63)] #[3, 3] rfl Try.func30 (by kernel_rfl) (by kernel_rfl) #[.int .i64 p.pos, .int .i64 63] (by simp [e83]; try rfl) hcl ?_
                        rintro e w7 ⟨rfl, hb7⟩
                        exact ⟨_, rfl, hK _ _ (hW.snoc hb7 (fun j v h => h) (⟨fun h => absurd h (by decide), fun h => absurd h (by decide), fun _ => rfl⟩))⟩
                      · (refine OpH.rdg rfl 39 77 false rfl rfl (by decide) (fun _ _ _ => rfl) (fun ρ us w6 ho ht hc hl hsrc hW => ?_); have e84 := (ht 84 (by decide)).trans (show _ = ((us.lookup 46).getD undef : Value) from rfl); rw [(hW.at_ (hsrc 46 (by exact (List.mem_singleton.2 rfl : (46 : Nat) ∈ [46])))).2.2 rfl] at e84; clear ht ho; simp only [execOp, e84]; go_simp; try rfl)
                      · (refine OpH.rd rfl rfl (fun ρ us w6 ho ht hc hl hsrc hW => ?_); have e77 := (ht 77 (by decide)).trans (show _ = (.bool false : Value) from rfl); have e85 := (ht 85 (by decide)).trans (show _ = (.bool true : Value) from rfl); clear ht ho; simp only [execOp, e77, e85]; go_simp; try rfl)
                      · intro us w9 hmem hW
                        simp only [putAll, List.map_cons, List.map_nil, List.foldl_cons, List.foldl_nil, Act.put, List.setIfInBounds_toArray, List.set_cons_succ, List.set_cons_zero]
                        generalize hsv : slotAt _ _ us = sv
                        have hq : sv 86 = .bool true := by rw [← hsv]; rfl
                        rw [hq]
                        have HB := Lib.hid (HB.out.trans (hW.1.mono HB.out.size))
                        clear hsv hq hmem hW
                        clear CEL
                        go_wp2
                        go_ret
                        exact ⟨by rw [HF2.out]; rfl, HALL.out _ HB.out⟩
                  · have HF2 := Lib.hid (HFAL.out (by rw [HAT.out, decide_eq_false hdk]; simp))
                    go_wp2_with fail
                    clear y1
                    refine region_free (by kernel_rfl) (by kernel_rfl) 92 rfl [38, 39, 40, 41, 42, 43, 44, 45, 46, 47, 48, 49, 50, 51, 52, 53, 54, 55, 56, 57, 58, 59, 60, 61, 62, 63, 64, 65, 66, 67, 68, 69, 70, 71, 72, 73, 74, 75, 76, 77, 78, 79, 80, 81, 82, 83, 84, 85, 86] [9, 36] [(47, 9), (74, 36)]
                      [(38, [], fun _ => (.pointer (some ⟨w.heap.size + 2, 1, none⟩))), (39, [], fun _ => .slice (some ⟨bi, oi, none⟩) n0 c0), (40, [], fun _ => .int .i64 (k : Int)), (41, [], fun _ => .pointer (some ⟨bi, oi + k, none⟩)), (42, [], fun _ => .int .i64 i), (43, [], fun _ => (.pointer (some ⟨w.heap.size + 1, 3, none⟩))), (44, [], fun _ => .slice Ap np cp), (45, [], fun _ => .int .i64 (np : Int)), (46, [], fun _ => .int .i64 ((np : Int) - 1)), (48, [9], fun _ => .bool false), (49, [9], fun _ => .bool false), (50, [], fun _ => .int .i64 (k : Int)), (51, [], fun _ => .bool true), (52, [], fun _ => .bool true), (53, [], fun _ => (.pointer (some ⟨w.heap.size + 2, 1, none⟩))), (54, [], fun _ => .slice (some ⟨bi, oi, none⟩) n0 c0), (55, [], fun _ => .int .i64 (k : Int)), (56, [], fun _ => .int .i64 ((k - 1 : Nat) : Int)), (57, [], fun _ => .pointer (some ⟨bi, oi + (k - 1), none⟩)), (58, [], fun _ => .int .i64 j), (59, [], fun _ => (.pointer (some ⟨w.heap.size + 2, 1, none⟩))), (60, [], fun _ => .slice (some ⟨bi, oi, none⟩) n0 c0), (61, [], fun _ => .int .i64 (k : Int)), (62, [], fun _ => .pointer (some ⟨bi, oi + k, none⟩)), (63, [], fun _ => .int .i64 i), (64, [], fun _ => .bool false), (65, [], fun _ => .bool false), (66, [], fun _ => .bool false), (67, [], fun _ => .bool false), (68, [], fun _ => (.pointer (some ⟨w.heap.size + 2, 2, none⟩))), (69, [], fun _ => .slice (some ⟨bt, ot, none⟩) n0 c1), (70, [], fun _ => .int .i64 (k : Int)), (71, [], fun _ => .pointer (some ⟨bt, ot + k * 2, none⟩)), (72, [], fun _ => .pointer (some ⟨bt, ot + k * 2, none⟩)), (73, [], fun _ => .int .i64 p.disk), (75, [36], fun _ => .bool true), (76, [36], fun _ => .bool true), (77, [36], fun _ => .bool true), (78, [], fun _ => undef), (79, [], fun _ => undef), (80, [], fun _ => undef), (81, [], fun _ => undef), (82, [], fun _ => undef), (83, [], fun _ => undef), (84, [], fun _ => undef), (85, [], fun _ => undef), (86, [36], fun _ => .bool true)]
                      [] [] [[], [38], [], [39, 40], [41], [], [43], [44], [45], [42, 46], [47], [48], [49], [50, 49], [51, 49], [52], [53, 52], [52], [55, 52], [54, 56, 52], [57, 52], [52], [59, 52], [52], [60, 61, 52], [62, 52], [58, 63, 52], [52, 64, 49], [49, 65], [66], [67], [68, 67], [67], [69, 70, 67], [71, 67], [72, 67], [73, 67], [74, 67], [67, 75], [76], [77], [78, 77], [77], [79, 80, 77], [81, 77], [82, 77], [83, 77], [84, 77], [77, 85]]
                      (WdB wr (fun i v _ => (i = 9 → v = .bool true) ∧ (i = 36 → v = .bool false) ∧ (i = 46 → v = .bool true))) (by kernel_rfl) .init ⟨?_, ?_, ?_, ?_, ?_, ?_, ?_, ?_, ?_, ?_, ?_, ?_, ?_, ?_, ?_, ?_, ?_, ?_, ?_, ?_, ?_, ?_, ?_, ?_, ?_, ?_, ?_, ?_, ?_, ?_, ?_, ?_, ?_, ?_, ?_, ?_, ?_, ?_, ?_, ?_, ?_, ?_, ?_, ?_, ?_, ?_, ?_, ?_, ?_, trivial⟩ ?_
                    · (refine OpH.rd rfl rfl (fun ρ us w6 ho ht hc hl hsrc hW => ?_); have e5 := (ho 5 rfl).trans (show _ = ((.pointer (some ⟨w.heap.size + 2, 0, none⟩)) : Value) from rfl); clear ht ho; simp only [execOp, e5]; go_simp; try rfl)
                    · (refine OpH.rd rfl rfl (fun ρ us w6 ho ht hc hl hsrc hW => ?_); have e38 := (ht 38 (by decide)).trans (show _ = ((.pointer (some ⟨w.heap.size + 2, 1, none⟩)) : Value) from rfl); obtain ⟨x3, y1, y2, yi, yp, yd, yq⟩ := CEL.out w6 (HB.out.trans (hW.1.mono HB.out.size)); clear ht ho; simp only [execOp, e38]; go_simp; try rfl)
                    · (refine OpH.rd rfl rfl (fun ρ us w6 ho ht hc hl hsrc hW => ?_); have e7 := (ho 7 rfl).trans (show _ = (.int .i64 (k : Int) : Value) from rfl); clear ht ho; simp only [execOp, e7]; go_simp; try rfl)
                    · (refine OpH.rd rfl rfl (fun ρ us w6 ho ht hc hl hsrc hW => ?_); have e39 := (ht 39 (by decide)).trans (show _ = (.slice (some ⟨bi, oi, none⟩) n0 c0 : Value) from rfl); have e40 := (ht 40 (by decide)).trans (show _ = (.int .i64 (k : Int) : Value) from rfl); clear ht ho; simp only [execOp, e39, e40]; go_simp; try rfl)
                    · (refine OpH.rd rfl rfl (fun ρ us w6 ho ht hc hl hsrc hW => ?_); have e41 := (ht 41 (by decide)).trans (show _ = (.pointer (some ⟨bi, oi + k, none⟩) : Value) from rfl); obtain ⟨x3, y1, y2, yi, yp, yd, yq⟩ := CEL.out w6 (HB.out.trans (hW.1.mono HB.out.size)); clear ht ho; simp only [execOp, e41]; go_simp; try rfl)
                    · (refine OpH.rd rfl rfl (fun ρ us w6 ho ht hc hl hsrc hW => ?_); have e4 := (ho 4 rfl).trans (show _ = ((.pointer (some ⟨w.heap.size + 1, 0, none⟩)) : Value) from rfl); clear ht ho; simp only [execOp, e4]; go_simp; try rfl)
                    · (refine OpH.rd rfl rfl (fun ρ us w6 ho ht hc hl hsrc hW => ?_); have e43 := (ht 43 (by decide)).trans (show _ = ((.pointer (some ⟨w.heap.size + 1, 3, none⟩)) : Value) from rfl); obtain ⟨x3, y1, y2, yi, yp, yd, yq⟩ := CEL.out w6 (HB.out.trans (hW.1.mono HB.out.size)); clear ht ho; simp only [execOp, e43]; go_simp; try rfl)
                    · (refine OpH.rd rfl rfl (fun ρ us w6 ho ht hc hl hsrc hW => ?_); have e44 := (ht 44 (by decide)).trans (show _ = (.slice Ap np cp : Value) from rfl); clear ht ho; simp only [execOp]; go_simp; try rfl)
                    · (refine OpH.rd rfl rfl (fun ρ us w6 ho ht hc hl hsrc hW => ?_); have e45 := (ht 45 (by decide)).trans (show _ = (.int .i64 (np : Int) : Value) from rfl); clear ht ho; simp only [execOp, e45]; go_simp; exact congrArg (Value.int .i64) (Go.IntWalk.i64_in _ (by omega)))
                    · refine OpH.wr rfl (fun Z us w6 ho ht hni hlim hreq hW K hK => ?_)
                      have e42 := (ht 42 (by decide)).trans (show _ = (.int .i64 i : Value) from rfl)
                      have e46 := (ht 46 (by decide)).trans (show _ = (.int .i64 ((np : Int) - 1) : Value) from rfl)
                      have hcl := Num_c (w := w6) (n := i) (m := ((np : Int) - 1))
                      rw [decide_eq_true (show 0 ≤ i ∧ i ≤ ((np : Int) - 1) by omega)] at hcl
                      refine step_call rfl 30 #[.tmp 42, .tmp 46] #[3, 3] rfl Try.func30 (by kernel_rfl) (by kernel_rfl) #[.int .i64 i, .int .i64 ((np : Int) - 1)] (by simp [e42, e46]) (hcl) ?_
                      rintro e w7 ⟨rfl, hb7⟩
                      exact ⟨_, rfl, hK _ _ (hW.snoc hb7 (fun j v h => h) (⟨fun _ => rfl, fun h => absurd h (by decide), fun h => absurd h (by decide)⟩))⟩
                    · (refine OpH.rd rfl rfl (fun ρ us w6 ho ht hc hl hsrc hW => ?_); have e47 := (ht 47 (by decide)).trans (show _ = ((us.lookup 9).getD undef : Value) from rfl); rw [(hW.at_ (hsrc 9 (by exact (List.mem_singleton.2 rfl : (9 : Nat) ∈ [9])))).1 rfl] at e47; clear ht ho; simp only [execOp, e47]; go_simp; try rfl)
                    · (refine OpH.rd rfl rfl (fun ρ us w6 ho ht hc hl hsrc hW => ?_); have e48 := (ht 48 (by decide)).trans (show _ = (.bool false : Value) from rfl); clear ht ho; simp only [execOp, e48]; go_simp; try rfl)
                    · (refine OpH.rdg rfl 11 49 false rfl rfl (by decide) (fun _ _ _ => rfl) (fun ρ us w6 ho ht hc hl hsrc hW => ?_); have e7 := (ho 7 rfl).trans (show _ = (.int .i64 (k : Int) : Value) from rfl); clear ht ho; simp only [execOp, e7]; go_simp; try rfl)
                    · (refine OpH.rdg rfl 11 49 false rfl rfl (by decide) (fun _ _ _ => rfl) (fun ρ us w6 ho ht hc hl hsrc hW => ?_); have e50 := (ht 50 (by decide)).trans (show _ = (.int .i64 (k : Int) : Value) from rfl); clear ht ho; simp only [execOp, e50]; go_simp; first | rfl | exact congrArg Value.bool (decide_eq_true (by omega)) | exact congrArg Value.bool (decide_eq_false (by omega)) | (simp; done) | (simp; omega))
                    · (refine OpH.rdg rfl 11 49 false rfl rfl (by decide) (fun _ _ _ => rfl) (fun ρ us w6 ho ht hc hl hsrc hW => ?_); have e51 := (ht 51 (by decide)).trans (show _ = (.bool true : Value) from rfl); clear ht ho; simp only [execOp, e51]; go_simp; try rfl)
                    · (refine OpH.rdg rfl 14 52 true rfl rfl (by decide) (fun _ _ _ => rfl) (fun ρ us w6 ho ht hc hl hsrc hW => ?_); have e5 := (ho 5 rfl).trans (show _ = ((.pointer (some ⟨w.heap.size + 2, 0, none⟩)) : Value) from rfl); clear ht ho; simp only [execOp, e5]; go_simp; try rfl)
                    · (refine OpH.rdg rfl 14 52 true rfl rfl (by decide) (fun _ _ _ => rfl) (fun ρ us w6 ho ht hc hl hsrc hW => ?_); have e53 := (ht 53 (by decide)).trans (show _ = ((.pointer (some ⟨w.heap.size + 2, 1, none⟩)) : Value) from rfl); obtain ⟨x3, y1, y2, yi, yp, yd, yq⟩ := CEL.out w6 (HB.out.trans (hW.1.mono HB.out.size)); clear ht ho; simp only [execOp, e53]; go_simp; try rfl)
                    · (refine OpH.rdg rfl 14 52 true rfl rfl (by decide) (fun _ _ _ => rfl) (fun ρ us w6 ho ht hc hl hsrc hW => ?_); have e7 := (ho 7 rfl).trans (show _ = (.int .i64 (k : Int) : Value) from rfl); clear ht ho; simp only [execOp, e7]; go_simp; try rfl)
                    · (refine OpH.rdg rfl 14 52 true rfl rfl (by decide) (fun _ _ _ => rfl) (fun ρ us w6 ho ht hc hl hsrc hW => ?_); have e55 := (ht 55 (by decide)).trans (show _ = (.int .i64 (k : Int) : Value) from rfl); clear ht ho; simp only [execOp, e55]; go_simp; exact (congrArg (Value.int .i64) (Go.IntWalk.i64_in _ (by omega))).trans (congrArg (Value.int .i64) (by omega)))
                    · (refine OpH.rdg rfl 14 52 true rfl rfl (by decide) (fun _ _ _ => rfl) (fun ρ us w6 ho ht hc hl hsrc hW => ?_); have e54 := (ht 54 (by decide)).trans (show _ = (.slice (some ⟨bi, oi, none⟩) n0 c0 : Value) from rfl); have e56 := (ht 56 (by decide)).trans (show _ = (.int .i64 ((k - 1 : Nat) : Int) : Value) from rfl); clear ht ho; simp only [execOp, e54, e56]; go_simp; try rfl)
                    · (refine OpH.rdg rfl 14 52 true rfl rfl (by decide) (fun _ _ _ => rfl) (fun ρ us w6 ho ht hc hl hsrc hW => ?_); have e57 := (ht 57 (by decide)).trans (show _ = (.pointer (some ⟨bi, oi + (k - 1), none⟩) : Value) from rfl); obtain ⟨x3, y1, y2, yi, yp, yd, yq⟩ := CEL.out w6 (HB.out.trans (hW.1.mono HB.out.size)); have yq := yq (by omega); clear ht ho; simp only [execOp, e57]; go_simp; try rfl)
                    · (refine OpH.rdg rfl 14 52 true rfl rfl (by decide) (fun _ _ _ => rfl) (fun ρ us w6 ho ht hc hl hsrc hW => ?_); have e5 := (ho 5 rfl).trans (show _ = ((.pointer (some ⟨w.heap.size + 2, 0, none⟩)) : Value) from rfl); clear ht ho; simp only [execOp, e5]; go_simp; try rfl)
                    · (refine OpH.rdg rfl 14 52 true rfl rfl (by decide) (fun _ _ _ => rfl) (fun ρ us w6 ho ht hc hl hsrc hW => ?_); have e59 := (ht 59 (by decide)).trans (show _ = ((.pointer (some ⟨w.heap.size + 2, 1, none⟩)) : Value) from rfl); obtain ⟨x3, y1, y2, yi, yp, yd, yq⟩ := CEL.out w6 (HB.out.trans (hW.1.mono HB.out.size)); clear ht ho; simp only [execOp, e59]; go_simp; try rfl)
                    · (refine OpH.rdg rfl 14 52 true rfl rfl (by decide) (fun _ _ _ => rfl) (fun ρ us w6 ho ht hc hl hsrc hW => ?_); have e7 := (ho 7 rfl).trans (show _ = (.int .i64 (k : Int) : Value) from rfl); clear ht ho; simp only [execOp, e7]; go_simp; try rfl)
                    · (refine OpH.rdg rfl 14 52 true rfl rfl (by decide) (fun _ _ _ => rfl) (fun ρ us w6 ho ht hc hl hsrc hW => ?_); have e60 := (ht 60 (by decide)).trans (show _ = (.slice (some ⟨bi, oi, none⟩) n0 c0 : Value) from rfl); have e61 := (ht 61 (by decide)).trans (show _ = (.int .i64 (k : Int) : Value) from rfl); clear ht ho; simp only [execOp, e60, e61]; go_simp; try rfl)
                    · (refine OpH.rdg rfl 14 52 true rfl rfl (by decide) (fun _ _ _ => rfl) (fun ρ us w6 ho ht hc hl hsrc hW => ?_); have e62 := (ht 62 (by decide)).trans (show _ = (.pointer (some ⟨bi, oi + k, none⟩) : Value) from rfl); obtain ⟨x3, y1, y2, yi, yp, yd, yq⟩ := CEL.out w6 (HB.out.trans (hW.1.mono HB.out.size)); clear ht ho; simp only [execOp, e62]; go_simp; try rfl)
                    · (refine OpH.rdg rfl 14 52 true rfl rfl (by decide) (fun _ _ _ => rfl) (fun ρ us w6 ho ht hc hl hsrc hW => ?_); have e58 := (ht 58 (by decide)).trans (show _ = (.int .i64 j : Value) from rfl); have e63 := (ht 63 (by decide)).trans (show _ = (.int .i64 i : Value) from rfl); clear ht ho; simp only [execOp, e58, e63]; go_simp; first | rfl | exact congrArg Value.bool (decide_eq_true (by omega)) | exact congrArg Value.bool (decide_eq_false (by omega)) | (simp; done) | (simp; omega))
                    · (refine OpH.rdg rfl 11 49 false rfl rfl (by decide) (fun _ _ _ => rfl) (fun ρ us w6 ho ht hc hl hsrc hW => ?_); have e52 := (ht 52 (by decide)).trans (show _ = (.bool true : Value) from rfl); have e64 := (ht 64 (by decide)).trans (show _ = (.bool false : Value) from rfl); clear ht ho; simp only [execOp, e52, e64]; go_simp; try rfl)
                    · (refine OpH.rd rfl rfl (fun ρ us w6 ho ht hc hl hsrc hW => ?_); have e49 := (ht 49 (by decide)).trans (show _ = (.bool false : Value) from rfl); have e65 := (ht 65 (by decide)).trans (show _ = (.bool false : Value) from rfl); clear ht ho; simp only [execOp, e49, e65]; go_simp; try rfl)
                    · (refine OpH.rd rfl rfl (fun ρ us w6 ho ht hc hl hsrc hW => ?_); have e66 := (ht 66 (by decide)).trans (show _ = (.bool false : Value) from rfl); clear ht ho; simp only [execOp, e66]; go_simp; try rfl)
                    · (refine OpH.rdg rfl 29 67 false rfl rfl (by decide) (fun _ _ _ => rfl) (fun ρ us w6 ho ht hc hl hsrc hW => ?_); have e5 := (ho 5 rfl).trans (show _ = ((.pointer (some ⟨w.heap.size + 2, 0, none⟩)) : Value) from rfl); clear ht ho; simp only [execOp, e5]; go_simp; try rfl)
                    · (refine OpH.rdg rfl 29 67 false rfl rfl (by decide) (fun _ _ _ => rfl) (fun ρ us w6 ho ht hc hl hsrc hW => ?_); have e68 := (ht 68 (by decide)).trans (show _ = ((.pointer (some ⟨w.heap.size + 2, 2, none⟩)) : Value) from rfl); obtain ⟨x3, y1, y2, yi, yp, yd, yq⟩ := CEL.out w6 (HB.out.trans (hW.1.mono HB.out.size)); clear ht ho; simp only [execOp, e68]; go_simp; try rfl)
                    · (refine OpH.rdg rfl 29 67 false rfl rfl (by decide) (fun _ _ _ => rfl) (fun ρ us w6 ho ht hc hl hsrc hW => ?_); have e7 := (ho 7 rfl).trans (show _ = (.int .i64 (k : Int) : Value) from rfl); clear ht ho; simp only [execOp, e7]; go_simp; try rfl)
                    · (refine OpH.rdg rfl 29 67 false rfl rfl (by decide) (fun _ _ _ => rfl) (fun ρ us w6 ho ht hc hl hsrc hW => ?_); have e69 := (ht 69 (by decide)).trans (show _ = (.slice (some ⟨bt, ot, none⟩) n0 c1 : Value) from rfl); have e70 := (ht 70 (by decide)).trans (show _ = (.int .i64 (k : Int) : Value) from rfl); clear ht ho; simp only [execOp, e69, e70]; go_simp; try rfl)
                    · (refine OpH.rdg rfl 29 67 false rfl rfl (by decide) (fun _ _ _ => rfl) (fun ρ us w6 ho ht hc hl hsrc hW => ?_); have e71 := (ht 71 (by decide)).trans (show _ = (.pointer (some ⟨bt, ot + k * 2, none⟩) : Value) from rfl); clear ht ho; simp only [execOp, e71]; go_simp; try rfl)
                    · (refine OpH.rdg rfl 29 67 false rfl rfl (by decide) (fun _ _ _ => rfl) (fun ρ us w6 ho ht hc hl hsrc hW => ?_); have e72 := (ht 72 (by decide)).trans (show _ = (.pointer (some ⟨bt, ot + k * 2, none⟩) : Value) from rfl); obtain ⟨x3, y1, y2, yi, yp, yd, yq⟩ := CEL.out w6 (HB.out.trans (hW.1.mono HB.out.size)); clear ht ho; simp only [execOp, e72]; go_simp; try rfl)
                    · refine OpH.wr rfl (fun Z us w6 ho ht hni hlim hreq hW K hK => ?_)
                      have e73 := (ht 73 (by decide)).trans (show _ = (.int .i64 p.disk : Value) from rfl)
                      have hcl := Num_c (w := w6) (n := p.disk) (m := 11)
                      rw [decide_eq_false (show ¬ (0 ≤ p.disk ∧ p.disk ≤ 11) by omega)] at hcl
                      have eg := (ht 67 (by decide)).trans (show _ = (.bool false : Value) from rfl)
                      refine step_callw (GuardOk.wanted (.at_ (j := 29) (t := 67) (b := false) rfl rfl eg)) 30 #[.tmp 73, .const (.int .i64 11)] #[3, 3] rfl Try.func30 (by kernel_rfl) (by kernel_rfl) #[.int .i64 p.disk, .int .i64 11] (by simp [e73]; try rfl) hcl ?_
                      rintro e w7 ⟨rfl, hb7⟩
                      exact ⟨_, rfl, hK _ _ (hW.snoc hb7 (fun j v h => h) (⟨fun h => absurd h (by decide), fun _ => rfl, fun h => absurd h (by decide)⟩))⟩
                    · (refine OpH.rdg rfl 29 67 false rfl rfl (by decide) (fun _ _ _ => rfl) (fun ρ us w6 ho ht hc hl hsrc hW => ?_); have e74 := (ht 74 (by decide)).trans (show _ = ((us.lookup 36).getD undef : Value) from rfl); rw [(hW.at_ (hsrc 36 (by exact (List.mem_singleton.2 rfl : (36 : Nat) ∈ [36])))).2.1 rfl] at e74; clear ht ho; simp only [execOp, e74]; go_simp; try rfl)
                    · (refine OpH.rd rfl rfl (fun ρ us w6 ho ht hc hl hsrc hW => ?_); have e67 := (ht 67 (by decide)).trans (show _ = (.bool false : Value) from rfl); have e75 := (ht 75 (by decide)).trans (show _ = (.bool true : Value) from rfl); clear ht ho; simp only [execOp, e67, e75]; go_simp; try rfl)
                    · (refine OpH.rd rfl rfl (fun ρ us w6 ho ht hc hl hsrc hW => ?_); have e76 := (ht 76 (by decide)).trans (show _ = (.bool true : Value) from rfl); clear ht ho; simp only [execOp, e76]; go_simp; try rfl)
                    · (exact OpH.rdn rfl 39 77 false rfl rfl (by decide) (fun _ _ _ => rfl) (fun _ => rfl))
                    · (exact OpH.rdn rfl 39 77 false rfl rfl (by decide) (fun _ _ _ => rfl) (fun _ => rfl))
                    · (exact OpH.rdn rfl 39 77 false rfl rfl (by decide) (fun _ _ _ => rfl) (fun _ => rfl))
                    · (exact OpH.rdn rfl 39 77 false rfl rfl (by decide) (fun _ _ _ => rfl) (fun _ => rfl))
                    · (exact OpH.rdn rfl 39 77 false rfl rfl (by decide) (fun _ _ _ => rfl) (fun _ => rfl))
                    · (exact OpH.rdn rfl 39 77 false rfl rfl (by decide) (fun _ _ _ => rfl) (fun _ => rfl))
                    · (exact OpH.rdn rfl 39 77 false rfl rfl (by decide) (fun _ _ _ => rfl) (fun _ => rfl))
                    · (exact OpH.rdn rfl 39 77 false rfl rfl (by decide) (fun _ _ _ => rfl) (fun _ => rfl))
                    · (refine OpH.rd rfl rfl (fun ρ us w6 ho ht hc hl hsrc hW => ?_); have e77 := (ht 77 (by decide)).trans (show _ = (.bool true : Value) from rfl); have e85 := (ht 85 (by decide)).trans (show _ = (undef : Value) from rfl); clear ht ho; simp only [execOp, e77, e85]; go_simp; try rfl)
                    · intro us w9 hmem hW
                      simp only [putAll, List.map_cons, List.map_nil, List.foldl_cons, List.foldl_nil, Act.put, List.setIfInBounds_toArray, List.set_cons_succ, List.set_cons_zero]
                      generalize hsv : slotAt _ _ us = sv
                      have hq : sv 86 = .bool true := by rw [← hsv]; rfl
                      rw [hq]
                      have HB := Lib.hid (HB.out.trans (hW.1.mono HB.out.size))
                      clear hsv hq hmem hW
                      clear CEL
                      go_wp2
                      go_ret
                      exact ⟨by rw [HF2.out]; rfl, HALL.out _ HB.out⟩
              · by_cases hdk : 0 ≤ p.disk ∧ p.disk ≤ 11
                · by_cases hps : 0 ≤ p.pos ∧ p.pos ≤ 63
                  · have HF2 := Lib.hid (HNXT.out (by rw [HAT.out, decide_eq_true hi, decide_eq_false hk0, decide_eq_true hdk, decide_eq_true hps]; simp))
                    go_wp2_with fail
                    clear y1
                    refine region_free (by kernel_rfl) (by kernel_rfl) 92 rfl [38, 39, 40, 41, 42, 43, 44, 45, 46, 47, 48, 49, 50, 51, 52, 53, 54, 55, 56, 57, 58, 59, 60, 61, 62, 63, 64, 65, 66, 67, 68, 69, 70, 71, 72, 73, 74, 75, 76, 77, 78, 79, 80, 81, 82, 83, 84, 85, 86] [9, 36, 46] [(47, 9), (74, 36), (84, 46)]
                      [(38, [], fun _ => (.pointer (some ⟨w.heap.size + 2, 1, none⟩))), (39, [], fun _ => .slice (some ⟨bi, oi, none⟩) n0 c0), (40, [], fun _ => .int .i64 (k : Int)), (41, [], fun _ => .pointer (some ⟨bi, oi + k, none⟩)), (42, [], fun _ => .int .i64 i), (43, [], fun _ => (.pointer (some ⟨w.heap.size + 1, 3, none⟩))), (44, [], fun _ => .slice Ap np cp), (45, [], fun _ => .int .i64 (np : Int)), (46, [], fun _ => .int .i64 ((np : Int) - 1)), (48, [9], fun _ => .bool false), (49, [9], fun _ => .bool false), (50, [], fun _ => .int .i64 (k : Int)), (51, [], fun _ => .bool false), (52, [], fun _ => .bool false), (53, [], fun _ => undef), (54, [], fun _ => undef), (55, [], fun _ => undef), (56, [], fun _ => undef), (57, [], fun _ => undef), (58, [], fun _ => undef), (59, [], fun _ => undef), (60, [], fun _ => undef), (61, [], fun _ => undef), (62, [], fun _ => undef), (63, [], fun _ => undef), (64, [], fun _ => undef), (65, [], fun _ => .bool false), (66, [], fun _ => .bool false), (67, [], fun _ => .bool false), (68, [], fun _ => (.pointer (some ⟨w.heap.size + 2, 2, none⟩))), (69, [], fun _ => .slice (some ⟨bt, ot, none⟩) n0 c1), (70, [], fun _ => .int .i64 (k : Int)), (71, [], fun _ => .pointer (some ⟨bt, ot + k * 2, none⟩)), (72, [], fun _ => .pointer (some ⟨bt, ot + k * 2, none⟩)), (73, [], fun _ => .int .i64 p.disk), (75, [36], fun _ => .bool false), (76, [36], fun _ => .bool false), (77, [36], fun _ => .bool false), (78, [], fun _ => (.pointer (some ⟨w.heap.size + 2, 2, none⟩))), (79, [], fun _ => .slice (some ⟨bt, ot, none⟩) n0 c1), (80, [], fun _ => .int .i64 (k : Int)), (81, [], fun _ => .pointer (some ⟨bt, ot + k * 2, none⟩)), (82, [], fun _ => .pointer (some ⟨bt, ot + k * 2 + 1, none⟩)), (83, [], fun _ => .int .i64 p.pos), (85, [46], fun _ => .bool false), (86, [46], fun _ => .bool false)]
                      [] [] [[], [38], [], [39, 40], [41], [], [43], [44], [45], [42, 46], [47], [48], [49], [50, 49], [51, 49], [52], [53, 52], [52], [55, 52], [54, 56, 52], [57, 52], [52], [59, 52], [52], [60, 61, 52], [62, 52], [58, 63, 52], [52, 64, 49], [49, 65], [66], [67], [68, 67], [67], [69, 70, 67], [71, 67], [72, 67], [73, 67], [74, 67], [67, 75], [76], [77], [78, 77], [77], [79, 80, 77], [81, 77], [82, 77], [83, 77], [84, 77], [77, 85]]
                      (WdB wr (fun i v _ => (i = 9 → v = .bool true) ∧ (i = 36 → v = .bool true) ∧ (i = 46 → v = .bool true))) (by kernel_rfl) .init ⟨?_, ?_, ?_, ?_, ?_, ?_, ?_, ?_, ?_, ?_, ?_, ?_, ?_, ?_, ?_, ?_, ?_, ?_, ?_, ?_, ?_, ?_, ?_, ?_, ?_, ?_, ?_, ?_, ?_, ?_, ?_, ?_, ?_, ?_, ?_, ?_, ?_, ?_, ?_, ?_, ?_, ?_, ?_, ?_, ?_, ?_, ?_, ?_, ?_, trivial⟩ ?_
                    · (refine OpH.rd rfl rfl (fun ρ us w6 ho ht hc hl hsrc hW => ?_); have e5 := (ho 5 rfl).trans (show _ = ((.pointer (some ⟨w.heap.size + 2, 0, none⟩)) : Value) from rfl); clear ht ho; simp only [execOp, e5]; go_simp; try rfl)
                    · (refine OpH.rd rfl rfl (fun ρ us w6 ho ht hc hl hsrc hW => ?_); have e38 := (ht 38 (by decide)).trans (show _ = ((.pointer (some ⟨w.heap.size + 2, 1, none⟩)) : Value) from rfl); obtain ⟨x3, y1, y2, yi, yp, yd, yq⟩ := CEL.out w6 (HB.out.trans (hW.1.mono HB.out.size)); clear ht ho; simp only [execOp, e38]; go_simp; try rfl)
                    · (refine OpH.rd rfl rfl (fun ρ us w6 ho ht hc hl hsrc hW => ?_); have e7 := (ho 7 rfl).trans (show _ = (.int .i64 (k : Int) : Value) from rfl); clear ht ho; simp only [execOp, e7]; go_simp; try rfl)
                    · (refine OpH.rd rfl rfl (fun ρ us w6 ho ht hc hl hsrc hW => ?_); have e39 := (ht 39 (by decide)).trans (show _ = (.slice (some ⟨bi, oi, none⟩) n0 c0 : Value) from rfl); have e40 := (ht 40 (by decide)).trans (show _ = (.int .i64 (k : Int) : Value) from rfl); clear ht ho; simp only [execOp, e39, e40]; go_simp; try rfl)
                    · (refine OpH.rd rfl rfl (fun ρ us w6 ho ht hc hl hsrc hW => ?_); have e41 := (ht 41 (by decide)).trans (show _ = (.pointer (some ⟨bi, oi + k, none⟩) : Value) from rfl); obtain ⟨x3, y1, y2, yi, yp, yd, yq⟩ := CEL.out w6 (HB.out.trans (hW.1.mono HB.out.size)); clear ht ho; simp only [execOp, e41]; go_simp; try rfl)
                    · (refine OpH.rd rfl rfl (fun ρ us w6 ho ht hc hl hsrc hW => ?_); have e4 := (ho 4 rfl).trans (show _ = ((.pointer (some ⟨w.heap.size + 1, 0, none⟩)) : Value) from rfl); clear ht ho; simp only [execOp, e4]; go_simp; try rfl)
                    · (refine OpH.rd rfl rfl (fun ρ us w6 ho ht hc hl hsrc hW => ?_); have e43 := (ht 43 (by decide)).trans (show _ = ((.pointer (some ⟨w.heap.size + 1, 3, none⟩)) : Value) from rfl); obtain ⟨x3, y1, y2, yi, yp, yd, yq⟩ := CEL.out w6 (HB.out.trans (hW.1.mono HB.out.size)); clear ht ho; simp only [execOp, e43]; go_simp; try rfl)
                    · (refine OpH.rd rfl rfl (fun ρ us w6 ho ht hc hl hsrc hW => ?_); have e44 := (ht 44 (by decide)).trans (show _ = (.slice Ap np cp : Value) from rfl); clear ht ho; simp only [execOp]; go_simp; try rfl)
                    · (refine OpH.rd rfl rfl (fun ρ us w6 ho ht hc hl hsrc hW => ?_); have e45 := (ht 45 (by decide)).trans (show _ = (.int .i64 (np : Int) : Value) from rfl); clear ht ho; simp only [execOp, e45]; go_simp; exact congrArg (Value.int .i64) (Go.IntWalk.i64_in _ (by omega)))
                    · refine OpH.wr rfl (fun Z us w6 ho ht hni hlim hreq hW K hK => ?_)
                      have e42 := (ht 42 (by decide)).trans (show _ = (.int .i64 i : Value) from rfl)
                      have e46 := (ht 46 (by decide)).trans (show _ = (.int .i64 ((np : Int) - 1) : Value) from rfl)
                      have hcl := Num_c (w := w6) (n := i) (m := ((np : Int) - 1))
                      rw [decide_eq_true (show 0 ≤ i ∧ i ≤ ((np : Int) - 1) by omega)] at hcl
                      refine step_call rfl 30 #[.tmp 42, .tmp 46] #[3, 3] rfl Try.func30 (by kernel_rfl) (by kernel_rfl) #[.int .i64 i, .int .i64 ((np : Int) - 1)] (by simp [e42, e46]) (hcl) ?_
                      rintro e w7 ⟨rfl, hb7⟩
                      exact ⟨_, rfl, hK _ _ (hW.snoc hb7 (fun j v h => h) (⟨fun _ => rfl, fun h => absurd h (by decide), fun h => absurd h (by decide)⟩))⟩
                    · (refine OpH.rd rfl rfl (fun ρ us w6 ho ht hc hl hsrc hW => ?_); have e47 := (ht 47 (by decide)).trans (show _ = ((us.lookup 9).getD undef : Value) from rfl); rw [(hW.at_ (hsrc 9 (by exact (List.mem_singleton.2 rfl : (9 : Nat) ∈ [9])))).1 rfl] at e47; clear ht ho; simp only [execOp, e47]; go_simp; try rfl)
                    · (refine OpH.rd rfl rfl (fun ρ us w6 ho ht hc hl hsrc hW => ?_); have e48 := (ht 48 (by decide)).trans (show _ = (.bool false : Value) from rfl); clear ht ho; simp only [execOp, e48]; go_simp; try rfl)
                    · (refine OpH.rdg rfl 11 49 false rfl rfl (by decide) (fun _ _ _ => rfl) (fun ρ us w6 ho ht hc hl hsrc hW => ?_); have e7 := (ho 7 rfl).trans (show _ = (.int .i64 (k : Int) : Value) from rfl); clear ht ho; simp only [execOp, e7]; go_simp; try rfl)
                    · (refine OpH.rdg rfl 11 49 false rfl rfl (by decide) (fun _ _ _ => rfl) (fun ρ us w6 ho ht hc hl hsrc hW => ?_); have e50 := (ht 50 (by decide)).trans (show _ = (.int .i64 (k : Int) : Value) from rfl); clear ht ho; simp only [execOp, e50]; go_simp; first | rfl | exact congrArg Value.bool (decide_eq_true (by omega)) | exact congrArg Value.bool (decide_eq_false (by omega)) | (simp; done) | (simp; omega))
                    · (refine OpH.rdg rfl 11 49 false rfl rfl (by decide) (fun _ _ _ => rfl) (fun ρ us w6 ho ht hc hl hsrc hW => ?_); have e51 := (ht 51 (by decide)).trans (show _ = (.bool false : Value) from rfl); clear ht ho; simp only [execOp, e51]; go_simp; try rfl)
                    · (exact OpH.rdn rfl 14 52 true rfl rfl (by decide) (fun _ _ _ => rfl) (fun _ => rfl))
                    · (exact OpH.rdn rfl 14 52 true rfl rfl (by decide) (fun _ _ _ => rfl) (fun _ => rfl))
                    · (exact OpH.rdn rfl 14 52 true rfl rfl (by decide) (fun _ _ _ => rfl) (fun _ => rfl))
                    · (exact OpH.rdn rfl 14 52 true rfl rfl (by decide) (fun _ _ _ => rfl) (fun _ => rfl))
                    · (exact OpH.rdn rfl 14 52 true rfl rfl (by decide) (fun _ _ _ => rfl) (fun _ => rfl))
                    · (exact OpH.rdn rfl 14 52 true rfl rfl (by decide) (fun _ _ _ => rfl) (fun _ => rfl))
                    · (exact OpH.rdn rfl 14 52 true rfl rfl (by decide) (fun _ _ _ => rfl) (fun _ => rfl))
                    · (exact OpH.rdn rfl 14 52 true rfl rfl (by decide) (fun _ _ _ => rfl) (fun _ => rfl))
                    · (exact OpH.rdn rfl 14 52 true rfl rfl (by decide) (fun _ _ _ => rfl) (fun _ => rfl))
                    · (exact OpH.rdn rfl 14 52 true rfl rfl (by decide) (fun _ _ _ => rfl) (fun _ => rfl))
                    · (exact OpH.rdn rfl 14 52 true rfl rfl (by decide) (fun _ _ _ => rfl) (fun _ => rfl))
                    · (exact OpH.rdn rfl 14 52 true rfl rfl (by decide) (fun _ _ _ => rfl) (fun _ => rfl))
                    · (refine OpH.rdg rfl 11 49 false rfl rfl (by decide) (fun _ _ _ => rfl) (fun ρ us w6 ho ht hc hl hsrc hW => ?_); have e52 := (ht 52 (by decide)).trans (show _ = (.bool false : Value) from rfl); have e64 := (ht 64 (by decide)).trans (show _ = (undef : Value) from rfl); clear ht ho; simp only [execOp, e52, e64]; go_simp; try rfl)
                    · (refine OpH.rd rfl rfl (fun ρ us w6 ho ht hc hl hsrc hW => ?_); have e49 := (ht 49 (by decide)).trans (show _ = (.bool false : Value) from rfl); have e65 := (ht 65 (by decide)).trans (show _ = (.bool false : Value) from rfl); clear ht ho; simp only [execOp, e49, e65]; go_simp; try rfl)
                    · (refine OpH.rd rfl rfl (fun ρ us w6 ho ht hc hl hsrc hW => ?_); have e66 := (ht 66 (by decide)).trans (show _ = (.bool false : Value) from rfl); clear ht ho; simp only [execOp, e66]; go_simp; try rfl)
                    · (refine OpH.rdg rfl 29 67 false rfl rfl (by decide) (fun _ _ _ => rfl) (fun ρ us w6 ho ht hc hl hsrc hW => ?_); have e5 := (ho 5 rfl).trans (show _ = ((.pointer (some ⟨w.heap.size + 2, 0, none⟩)) : Value) from rfl); clear ht ho; simp only [execOp, e5]; go_simp; try rfl)
                    · (refine OpH.rdg rfl 29 67 false rfl rfl (by decide) (fun _ _ _ => rfl) (fun ρ us w6 ho ht hc hl hsrc hW => ?_); have e68 := (ht 68 (by decide)).trans (show _ = ((.pointer (some ⟨w.heap.size + 2, 2, none⟩)) : Value) from rfl); obtain ⟨x3, y1, y2, yi, yp, yd, yq⟩ := CEL.out w6 (HB.out.trans (hW.1.mono HB.out.size)); clear ht ho; simp only [execOp, e68]; go_simp; try rfl)
                    · (refine OpH.rdg rfl 29 67 false rfl rfl (by decide) (fun _ _ _ => rfl) (fun ρ us w6 ho ht hc hl hsrc hW => ?_); have e7 := (ho 7 rfl).trans (show _ = (.int .i64 (k : Int) : Value) from rfl); clear ht ho; simp only [execOp, e7]; go_simp; try rfl)
                    · (refine OpH.rdg rfl 29 67 false rfl rfl (by decide) (fun _ _ _ => rfl) (fun ρ us w6 ho ht hc hl hsrc hW => ?_); have e69 := (ht 69 (by decide)).trans (show _ = (.slice (some ⟨bt, ot, none⟩) n0 c1 : Value) from rfl); have e70 := (ht 70 (by decide)).trans (show _ = (.int .i64 (k : Int) : Value) from rfl); clear ht ho; simp only [execOp, e69, e70]; go_simp; try rfl)
                    · (refine OpH.rdg rfl 29 67 false rfl rfl (by decide) (fun _ _ _ => rfl) (fun ρ us w6 ho ht hc hl hsrc hW => ?_); have e71 := (ht 71 (by decide)).trans (show _ = (.pointer (some ⟨bt, ot + k * 2, none⟩) : Value) from rfl); clear ht ho; simp only [execOp, e71]; go_simp; try rfl)
                    · (refine OpH.rdg rfl 29 67 false rfl rfl (by decide) (fun _ _ _ => rfl) (fun ρ us w6 ho ht hc hl hsrc hW => ?_); have e72 := (ht 72 (by decide)).trans (show _ = (.pointer (some ⟨bt, ot + k * 2, none⟩) : Value) from rfl); obtain ⟨x3, y1, y2, yi, yp, yd, yq⟩ := CEL.out w6 (HB.out.trans (hW.1.mono HB.out.size)); clear ht ho; simp only [execOp, e72]; go_simp; try rfl)
                    · refine OpH.wr rfl (fun Z us w6 ho ht hni hlim hreq hW K hK => ?_)
                      have e73 := (ht 73 (by decide)).trans (show _ = (.int .i64 p.disk : Value) from rfl)
                      have hcl := Num_c (w := w6) (n := p.disk) (m := 11)
                      rw [decide_eq_true (show 0 ≤ p.disk ∧ p.disk ≤ 11 by omega)] at hcl
                      have eg := (ht 67 (by decide)).trans (show _ = (.bool false : Value) from rfl)
                      refine step_callw (GuardOk.wanted (.at_ (j := 29) (t := 67) (b := false) rfl rfl eg)) 30 #[.tmp 73, .const (.int .i64 11)] #[3, 3] rfl Try.func30 (by kernel_rfl) (by kernel_rfl) #[.int .i64 p.disk, .int .i64 11] (by simp [e73]; try rfl) hcl ?_
                      rintro e w7 ⟨rfl, hb7⟩
                      exact ⟨_, rfl, hK _ _ (hW.snoc hb7 (fun j v h => h) (⟨fun h => absurd h (by decide), fun _ => rfl, fun h => absurd h (by decide)⟩))⟩
                    · (refine OpH.rdg rfl 29 67 false rfl rfl (by decide) (fun _ _ _ => rfl) (fun ρ us w6 ho ht hc hl hsrc hW => ?_); have e74 := (ht 74 (by decide)).trans (show _ = ((us.lookup 36).getD undef : Value) from rfl); rw [(hW.at_ (hsrc 36 (by exact (List.mem_singleton.2 rfl : (36 : Nat) ∈ [36])))).2.1 rfl] at e74; clear ht ho; simp only [execOp, e74]; go_simp; try rfl)
                    · (refine OpH.rd rfl rfl (fun ρ us w6 ho ht hc hl hsrc hW => ?_); have e67 := (ht 67 (by decide)).trans (show _ = (.bool false : Value) from rfl); have e75 := (ht 75 (by decide)).trans (show _ = (.bool false : Value) from rfl); clear ht ho; simp only [execOp, e67, e75]; go_simp; try rfl)
                    · (refine OpH.rd rfl rfl (fun ρ us w6 ho ht hc hl hsrc hW => ?_); have e76 := (ht 76 (by decide)).trans (show _ = (.bool false : Value) from rfl); clear ht ho; simp only [execOp, e76]; go_simp; try rfl)
                    · (refine OpH.rdg rfl 39 77 false rfl rfl (by decide) (fun _ _ _ => rfl) (fun ρ us w6 ho ht hc hl hsrc hW => ?_); have e5 := (ho 5 rfl).trans (show _ = ((.pointer (some ⟨w.heap.size + 2, 0, none⟩)) : Value) from rfl); clear ht ho; simp only [execOp, e5]; go_simp; try rfl)
                    · (refine OpH.rdg rfl 39 77 false rfl rfl (by decide) (fun _ _ _ => rfl) (fun ρ us w6 ho ht hc hl hsrc hW => ?_); have e78 := (ht 78 (by decide)).trans (show _ = ((.pointer (some ⟨w.heap.size + 2, 2, none⟩)) : Value) from rfl); obtain ⟨x3, y1, y2, yi, yp, yd, yq⟩ := CEL.out w6 (HB.out.trans (hW.1.mono HB.out.size)); clear ht ho; simp only [execOp, e78]; go_simp; try rfl)
                    · (refine OpH.rdg rfl 39 77 false rfl rfl (by decide) (fun _ _ _ => rfl) (fun ρ us w6 ho ht hc hl hsrc hW => ?_); have e7 := (ho 7 rfl).trans (show _ = (.int .i64 (k : Int) : Value) from rfl); clear ht ho; simp only [execOp, e7]; go_simp; try rfl)
                    · (refine OpH.rdg rfl 39 77 false rfl rfl (by decide) (fun _ _ _ => rfl) (fun ρ us w6 ho ht hc hl hsrc hW => ?_); have e79 := (ht 79 (by decide)).trans (show _ = (.slice (some ⟨bt, ot, none⟩) n0 c1 : Value) from rfl); have e80 := (ht 80 (by decide)).trans (show _ = (.int .i64 (k : Int) : Value) from rfl); clear ht ho; simp only [execOp, e79, e80]; go_simp; try rfl)
                    · (refine OpH.rdg rfl 39 77 false rfl rfl (by decide) (fun _ _ _ => rfl) (fun ρ us w6 ho ht hc hl hsrc hW => ?_); have e81 := (ht 81 (by decide)).trans (show _ = (.pointer (some ⟨bt, ot + k * 2, none⟩) : Value) from rfl); clear ht ho; simp only [execOp, e81]; go_simp; try rfl)
                    · (refine OpH.rdg rfl 39 77 false rfl rfl (by decide) (fun _ _ _ => rfl) (fun ρ us w6 ho ht hc hl hsrc hW => ?_); have e82 := (ht 82 (by decide)).trans (show _ = (.pointer (some ⟨bt, ot + k * 2 + 1, none⟩) : Value) from rfl); obtain ⟨x3, y1, y2, yi, yp, yd, yq⟩ := CEL.out w6 (HB.out.trans (hW.1.mono HB.out.size)); clear ht ho; simp only [execOp, e82]; go_simp; try rfl)
                    · refine OpH.wr rfl (fun Z us w6 ho ht hni hlim hreq hW K hK => ?_)
                      have e83 := (ht 83 (by decide)).trans (show _ = (.int .i64 p.pos : Value) from rfl)
                      have hcl := Num_c (w := w6) (n := p.pos) (m := 63)
                      rw [decide_eq_true (show 0 ≤ p.pos ∧ p.pos ≤ 63 by omega)] at hcl
                      have eg := (ht 77 (by decide)).trans (show _ = (.bool false : Value) from rfl)
                      refine step_callw (GuardOk.wanted (.at_ (j := 39) (t := 77) (b := false) rfl rfl eg)) 30 #[.tmp 83, .const (.int .i64 63)] #[3, 3] rfl Try.func30 (by kernel_rfl) (by kernel_rfl) #[.int .i64 p.pos, .int .i64 63] (by simp [e83]; try rfl) hcl ?_
                      rintro e w7 ⟨rfl, hb7⟩
                      exact ⟨_, rfl, hK _ _ (hW.snoc hb7 (fun j v h => h) (⟨fun h => absurd h (by decide), fun h => absurd h (by decide), fun _ => rfl⟩))⟩
                    · (refine OpH.rdg rfl 39 77 false rfl rfl (by decide) (fun _ _ _ => rfl) (fun ρ us w6 ho ht hc hl hsrc hW => ?_); have e84 := (ht 84 (by decide)).trans (show _ = ((us.lookup 46).getD undef : Value) from rfl); rw [(hW.at_ (hsrc 46 (by exact (List.mem_singleton.2 rfl : (46 : Nat) ∈ [46])))).2.2 rfl] at e84; clear ht ho; simp only [execOp, e84]; go_simp; try rfl)
                    · (refine OpH.rd rfl rfl (fun ρ us w6 ho ht hc hl hsrc hW => ?_); have e77 := (ht 77 (by decide)).trans (show _ = (.bool false : Value) from rfl); have e85 := (ht 85 (by decide)).trans (show _ = (.bool false : Value) from rfl); clear ht ho; simp only [execOp, e77, e85]; go_simp; try rfl)
                    · intro us w9 hmem hW
                      simp only [putAll, List.map_cons, List.map_nil, List.foldl_cons, List.foldl_nil, Act.put, List.setIfInBounds_toArray, List.set_cons_succ, List.set_cons_zero]
                      generalize hsv : slotAt _ _ us = sv
                      have hq : sv 86 = .bool false := by rw [← hsv]; rfl
                      rw [hq]
                      have HB := Lib.hid (HB.out.trans (hW.1.mono HB.out.size))
                      clear hsv hq hmem hW
                      clear CEL
                      go_wp2
                      exact ⟨⟨k + 1, by omega, by go_num, HB, HF2⟩, by simp [intOf]; omega⟩
                  · have HF2 := Lib.hid (HFAL.out (by rw [HAT.out, decide_eq_false hps]; simp))
                    go_wp2_with fail
                    clear y1
                    refine region_free (by kernel_rfl) (by kernel_rfl) 92 rfl [38, 39, 40, 41, 42, 43, 44, 45, 46, 47, 48, 49, 50, 51, 52, 53, 54, 55, 56, 57, 58, 59, 60, 61, 62, 63, 64, 65, 66, 67, 68, 69, 70, 71, 72, 73, 74, 75, 76, 77, 78, 79, 80, 81, 82, 83, 84, 85, 86] [9, 36, 46] [(47, 9), (74, 36), (84, 46)]
                      [(38, [], fun _ => (.pointer (some ⟨w.heap.size + 2, 1, none⟩))), (39, [], fun _ => .slice (some ⟨bi, oi, none⟩) n0 c0), (40, [], fun _ => .int .i64 (k : Int)), (41, [], fun _ => .pointer (some ⟨bi, oi + k, none⟩)), (42, [], fun _ => .int .i64 i), (43, [], fun _ => (.pointer (some ⟨w.heap.size + 1, 3, none⟩))), (44, [], fun _ => .slice Ap np cp), (45, [], fun _ => .int .i64 (np : Int)), (46, [], fun _ => .int .i64 ((np : Int) - 1)), (48, [9], fun _ => .bool false), (49, [9], fun _ => .bool false), (50, [], fun _ => .int .i64 (k : Int)), (51, [], fun _ => .bool false), (52, [], fun _ => .bool false), (53, [], fun _ => undef), (54, [], fun _ => undef), (55, [], fun _ => undef), (56, [], fun _ => undef), (57, [], fun _ => undef), (58, [], fun _ => undef), (59, [], fun _ => undef), (60, [], fun _ => undef), (61, [], fun _ => undef), (62, [], fun _ => undef), (63, [], fun _ => undef), (64, [], fun _ => undef), (65, [], fun _ => .bool false), (66, [], fun _ => .bool false), (67, [], fun _ => .bool false), (68, [], fun _ => (.pointer (some ⟨w.heap.size + 2, 2, none⟩))), (69, [], fun _ => .slice (some ⟨bt, ot, none⟩) n0 c1), (70, [], fun _ => .int .i64 (k : Int)), (71, [], fun _ => .pointer (some ⟨bt, ot + k * 2, none⟩)), (72, [], fun _ => .pointer (some ⟨bt, ot + k * 2, none⟩)), (73, [], fun _ => .int .i64 p.disk), (75, [36], fun _ => .bool false), (76, [36], fun _ => .bool false), (77, [36], fun _ => .bool false), (78, [], fun _ => (.pointer (some ⟨w.heap.size + 2, 2, none⟩))), (79, [], fun _ => .slice (some ⟨bt, ot, none⟩) n0 c1), (80, [], fun _ => .int .i64 (k : Int)), (81, [], fun _ => .pointer (some ⟨bt, ot + k * 2, none⟩)), (82, [], fun _ => .pointer (some ⟨bt, ot + k * 2 + 1, none⟩)), (83, [], fun _ => .int .i64 p.pos), (85, [46], fun _ => .bool true), (86, [46], fun _ => .bool true)]
                      [] [] [[], [38], [], [39, 40], [41], [], [43], [44], [45], [42, 46], [47], [48], [49], [50, 49], [51, 49], [52], [53, 52], [52], [55, 52], [54, 56, 52], [57, 52], [52], [59, 52], [52], [60, 61, 52], [62, 52], [58, 63, 52], [52, 64, 49], [49, 65], [66], [67], [68, 67], [67], [69, 70, 67], [71, 67], [72, 67], [73, 67], [74, 67], [67, 75], [76], [77], [78, 77], [77], [79, 80, 77], [81, 77], [82, 77], [83, 77], [84, 77], [77, 85]]
                      (WdB wr (fun i v _ => (i = 9 → v = .bool true) ∧ (i = 36 → v = .bool true) ∧ (i = 46 → v = .bool false))) (by kernel_rfl) .init ⟨?_, ?_, ?_, ?_, ?_, ?_, ?_, ?_, ?_, ?_, ?_, ?_, ?_, ?_, ?_, ?_, ?_, ?_, ?_, ?_, ?_, ?_, ?_, ?_, ?_, ?_, ?_, ?_, ?_, ?_, ?_, ?_, ?_, ?_, ?_, ?_, ?_, ?_, ?_, ?_, ?_, ?_, ?_, ?_, ?_, ?_, ?_, ?_, ?_, trivial⟩ ?_
                    · (refine OpH.rd rfl rfl (fun ρ us w6 ho ht hc hl hsrc hW => ?_); have e5 := (ho 5 rfl).trans (show _ = ((.pointer (some ⟨w.heap.size + 2, 0, none⟩)) : Value) from rfl); clear ht ho; simp only [execOp, e5]; go_simp; try rfl)
                    · (refine OpH.rd rfl rfl (fun ρ us w6 ho ht hc hl hsrc hW => ?_); have e38 := (ht 38 (by decide)).trans (show _ = ((.pointer (some ⟨w.heap.size + 2, 1, none⟩)) : Value) from rfl); obtain ⟨x3, y1, y2, yi, yp, yd, yq⟩ := CEL.out w6 (HB.out.trans (hW.1.mono HB.out.size)); clear ht ho; simp only [execOp, e38]; go_simp; try rfl)
                    · (refine OpH.rd rfl rfl (fun ρ us w6 ho ht hc hl hsrc hW => ?_); have e7 := (ho 7 rfl).trans (show _ = (.int .i64 (k : Int) : Value) from rfl); clear ht ho; simp only [execOp, e7]; go_simp; try rfl)
                    · (refine OpH.rd rfl rfl (fun ρ us w6 ho ht hc hl hsrc hW => ?_); have e39 := (ht 39 (by decide)).trans (show _ = (.slice (some ⟨bi, oi, none⟩) n0 c0 : Value) from rfl); have e40 := (ht 40 (by decide)).trans (show _ = (.int .i64 (k : Int) : Value) from rfl); clear ht ho; simp only [execOp, e39, e40]; go_simp; try rfl)
                    · (refine OpH.rd rfl rfl (fun ρ us w6 ho ht hc hl hsrc hW => ?_); have e41 := (ht 41 (by decide)).trans (show _ = (.pointer (some ⟨bi, oi + k, none⟩) : Value) from rfl); obtain ⟨x3, y1, y2, yi, yp, yd, yq⟩ := CEL.out w6 (HB.out.trans (hW.1.mono HB.out.size)); clear ht ho; simp only [execOp, e41]; go_simp; try rfl)
                    · (refine OpH.rd rfl rfl (fun ρ us w6 ho ht hc hl hsrc hW => ?_); have e4 := (ho 4 rfl).trans (show _ = ((.pointer (some ⟨w.heap.size + 1, 0, none⟩)) : Value) from rfl); clear ht ho; simp only [execOp, e4]; go_simp; try rfl)
                    · (refine OpH.rd rfl rfl (fun ρ us w6 ho ht hc hl hsrc hW => ?_); have e43 := (ht 43 (by decide)).trans (show _ = ((.pointer (some ⟨w.heap.size + 1, 3, none⟩)) : Value) from rfl); obtain ⟨x3, y1, y2, yi, yp, yd, yq⟩ := CEL.out w6 (HB.out.trans (hW.1.mono HB.out.size)); clear ht ho; simp only [execOp, e43]; go_simp; try rfl)
                    · (refine OpH.rd rfl rfl (fun ρ us w6 ho ht hc hl hsrc hW => ?_); have e44 := (ht 44 (by decide)).trans (show _ = (.slice Ap np cp : Value) from rfl); clear ht ho; simp only [execOp]; go_simp; try rfl)
                    · (refine OpH.rd rfl rfl (fun ρ us w6 ho ht hc hl hsrc hW => ?_); have e45 := (ht 45 (by decide)).trans (show _ = (.int .i64 (np : Int) : Value) from rfl); clear ht ho; simp only [execOp, e45]; go_simp; exact congrArg (Value.int .i64) (Go.IntWalk.i64_in _ (by omega)))
                    · refine OpH.wr rfl (fun Z us w6 ho ht hni hlim hreq hW K hK => ?_)
                      have e42 := (ht 42 (by decide)).trans (show _ = (.int .i64 i : Value) from rfl)
                      have e46 := (ht 46 (by decide)).trans (show _ = (.int .i64 ((np : Int) - 1) : Value) from rfl)
                      have hcl := Num_c (w := w6) (n := i) (m := ((np : Int) - 1))
                      rw [decide_eq_true (show 0 ≤ i ∧ i ≤ ((np : Int) - 1) by omega)] at hcl
                      refine step_call rfl 30 #[.tmp 42, .tmp 46] #[3, 3] rfl Try.func30 (by kernel_rfl) (by kernel_rfl) #[.int .i64 i, .int .i64 ((np : Int) - 1)] (by simp [e42, e46]) (hcl) ?_
                      rintro e w7 ⟨rfl, hb7⟩
                      exact ⟨_, rfl, hK _ _ (hW.snoc hb7 (fun j v h => h) (⟨fun _ => rfl, fun h => absurd h (by decide), fun h => absurd h (by decide)⟩))⟩
                    · (refine OpH.rd rfl rfl (fun ρ us w6 ho ht hc hl hsrc hW => ?_); have e47 := (ht 47 (by decide)).trans (show _ = ((us.lookup 9).getD undef : Value) from rfl); rw [(hW.at_ (hsrc 9 (by exact (List.mem_singleton.2 rfl : (9 : Nat) ∈ [9])))).1 rfl] at e47; clear ht ho; simp only [execOp, e47]; go_simp; try rfl)
                    · (refine OpH.rd rfl rfl (fun ρ us w6 ho ht hc hl hsrc hW => ?_); have e48 := (ht 48 (by decide)).trans (show _ = (.bool false : Value) from rfl); clear ht ho; simp only [execOp, e48]; go_simp; try rfl)
                    · (refine OpH.rdg rfl 11 49 false rfl rfl (by decide) (fun _ _ _ => rfl) (fun ρ us w6 ho ht hc hl hsrc hW => ?_); have e7 := (ho 7 rfl).trans (show _ = (.int .i64 (k : Int) : Value) from rfl); clear ht ho; simp only [execOp, e7]; go_simp; try rfl)
                    · (refine OpH.rdg rfl 11 49 false rfl rfl (by decide) (fun _ _ _ => rfl) (fun ρ us w6 ho ht hc hl hsrc hW => ?_); have e50 := (ht 50 (by decide)).trans (show _ = (.int .i64 (k : Int) : Value) from rfl); clear ht ho; simp only [execOp, e50]; go_simp; first | rfl | exact congrArg Value.bool (decide_eq_true (by omega)) | exact congrArg Value.bool (decide_eq_false (by omega)) | (simp; done) | (simp; omega))
                    · (refine OpH.rdg rfl 11 49 false rfl rfl (by decide) (fun _ _ _ => rfl) (fun ρ us w6 ho ht hc hl hsrc hW => ?_); have e51 := (ht 51 (by decide)).trans (show _ = (.bool false : Value) from rfl); clear ht ho; simp only [execOp, e51]; go_simp; try rfl)
                    · (exact OpH.rdn rfl 14 52 true rfl rfl (by decide) (fun _ _ _ => rfl) (fun _ => rfl))
                    · (exact OpH.rdn rfl 14 52 true rfl rfl (by decide) (fun _ _ _ => rfl) (fun _ => rfl))
                    · (exact OpH.rdn rfl 14 52 true rfl rfl (by decide) (fun _ _ _ => rfl) (fun _ => rfl))
                    · (exact OpH.rdn rfl 14 52 true rfl rfl (by decide) (fun _ _ _ => rfl) (fun _ => rfl))
                    · (exact OpH.rdn rfl 14 52 true rfl rfl (by decide) (fun _ _ _ => rfl) (fun _ => rfl))
                    · (exact OpH.rdn rfl 14 52 true rfl rfl (by decide) (fun _ _ _ => rfl) (fun _ => rfl))
                    · (exact OpH.rdn rfl 14 52 true rfl rfl (by decide) (fun _ _ _ => rfl) (fun _ => rfl))
                    · (exact OpH.rdn rfl 14 52 true rfl rfl (by decide) (fun _ _ _ => rfl) (fun _ => rfl))
                    · (exact OpH.rdn rfl 14 52 true rfl rfl (by decide) (fun _ _ _ => rfl) (fun _ => rfl))
                    · (exact OpH.rdn rfl 14 52 true rfl rfl (by decide) (fun _ _ _ => rfl) (fun _ => rfl))
                    · (exact OpH.rdn rfl 14 52 true rfl rfl (by decide) (fun _ _ _ => rfl) (fun _ => rfl))
                    · (exact OpH.rdn rfl 14 52 true rfl rfl (by decide) (fun _ _ _ => rfl) (fun _ => rfl))
                    · (refine OpH.rdg rfl 11 49 false rfl rfl (by decide) (fun _ _ _ => rfl) (fun ρ us w6 ho ht hc hl hsrc hW => ?_); have e52 := (ht 52 (by decide)).trans (show _ = (.bool false : Value) from rfl); have e64 := (ht 64 (by decide)).trans (show _ = (undef : Value) from rfl); clear ht ho; simp only [execOp, e52, e64]; go_simp; try rfl)
                    · (refine OpH.rd rfl rfl (fun ρ us w6 ho ht hc hl hsrc hW => ?_); have e49 := (ht 49 (by decide)).trans (show _ = (.bool false : Value) from rfl); have e65 := (ht 65 (by decide)).trans (show _ = (.bool false : Value) from rfl); clear ht ho; simp only [execOp, e49, e65]; go_simp; try rfl)
                    · (refine OpH.rd rfl rfl (fun ρ us w6 ho ht hc hl hsrc hW => ?_); have e66 := (ht 66 (by decide)).trans (show _ = (.bool false : Value) from rfl); clear ht ho; simp only [execOp, e66]; go_simp; try rfl)
                    · (refine OpH.rdg rfl 29 67 false rfl rfl (by decide) (fun _ _ _ => rfl) (fun ρ us w6 ho ht hc hl hsrc hW => ?_); have e5 := (ho 5 rfl).trans (show _ = ((.pointer (some ⟨w.heap.size + 2, 0, none⟩)) : Value) from rfl); clear ht ho; simp only [execOp, e5]; go_simp; try rfl)
                    · (refine OpH.rdg rfl 29 67 false rfl rfl (by decide) (fun _ _ _ => rfl) (fun ρ us w6 ho ht hc hl hsrc hW => ?_); have e68 := (ht 68 (by decide)).trans (show _ = ((.pointer (some ⟨w.heap.size + 2, 2, none⟩)) : Value) from rfl); obtain ⟨x3, y1, y2, yi, yp, yd, yq⟩ := CEL.out w6 (HB.out.trans (hW.1.mono HB.out.size)); clear ht ho; simp only [execOp, e68]; go_simp; try rfl)
                    · (refine OpH.rdg rfl 29 67 false rfl rfl (by decide) (fun _ _ _ => rfl) (fun ρ us w6 ho ht hc hl hsrc hW => ?_); have e7 := (ho 7 rfl).trans (show _ = (.int .i64 (k : Int) : Value) from rfl); clear ht ho; simp only [execOp, e7]; go_simp; try rfl)
                    · (refine OpH.rdg rfl 29 67 false rfl rfl (by decide) (fun _ _ _ => rfl) (fun ρ us w6 ho ht hc hl hsrc hW => ?_); have e69 := (ht 69 (by decide)).trans (show _ = (.slice (some ⟨bt, ot, none⟩) n0 c1 : Value) from rfl); have e70 := (ht 70 (by decide)).trans (show _ = (.int .i64 (k : Int) : Value) from rfl); clear ht ho; simp only [execOp, e69, e70]; go_simp; try rfl)
                    · (refine OpH.rdg rfl 29 67 false rfl rfl (by decide) (fun _ _ _ => rfl) (fun ρ us w6 ho ht hc hl hsrc hW => ?_); have e71 := (ht 71 (by decide)).trans (show _ = (.pointer (some ⟨bt, ot + k * 2, none⟩) : Value) from rfl); clear ht ho; simp only [execOp, e71]; go_simp; try rfl)
                    · (refine OpH.rdg rfl 29 67 false rfl rfl (by decide) (fun _ _ _ => rfl) (fun ρ us w6 ho ht hc hl hsrc hW => ?_); have e72 := (ht 72 (by decide)).trans (show _ = (.pointer (some ⟨bt, ot + k * 2, none⟩) : Value) from rfl); obtain ⟨x3, y1, y2, yi, yp, yd, yq⟩ := CEL.out w6 (HB.out.trans (hW.1.mono HB.out.size)); clear ht ho; simp only [execOp, e72]; go_simp; try rfl)
                    · refine OpH.wr rfl (fun Z us w6 ho ht hni hlim hreq hW K hK => ?_)
                      have e73 := (ht 73 (by decide)).trans (show _ = (.int .i64 p.disk : Value) from rfl)
                      have hcl := Num_c (w := w6) (n := p.disk) (m := 11)
                      rw [decide_eq_true (show 0 ≤ p.disk ∧ p.disk ≤ 11 by omega)] at hcl
                      have eg := (ht 67 (by decide)).trans (show _ = (.bool false : Value) from rfl)
                      refine step_callw (GuardOk.wanted (.at_ (j := 29) (t := 67) (b := false) rfl rfl eg)) 30 #[.tmp 73, .const (.int .i64 11)] #[3, 3] rfl Try.func30 (by kernel_rfl) (by kernel_rfl) #[.int .i64 p.disk, .int .i64 11] (by simp [e73]; try rfl) hcl ?_
                      rintro e w7 ⟨rfl, hb7⟩
                      exact ⟨_, rfl, hK _ _ (hW.snoc hb7 (fun j v h => h) (⟨fun h => absurd h (by decide), fun _ => rfl, fun h => absurd h (by decide)⟩))⟩
                    · (refine OpH.rdg rfl 29 67 false rfl rfl (by decide) (fun _ _ _ => rfl) (fun ρ us w6 ho ht hc hl hsrc hW => ?_); have e74 := (ht 74 (by decide)).trans (show _ = ((us.lookup 36).getD undef : Value) from rfl); rw [(hW.at_ (hsrc 36 (by exact (List.mem_singleton.2 rfl : (36 : Nat) ∈ [36])))).2.1 rfl] at e74; clear ht ho; simp only [execOp, e74]; go_simp; try rfl)
                    · (refine OpH.rd rfl rfl (fun ρ us w6 ho ht hc hl hsrc hW => ?_); have e67 := (ht 67 (by decide)).trans (show _ = (.bool false : Value) from rfl); have e75 := (ht 75 (by decide)).trans (show _ = (.bool false : Value) from rfl); clear ht ho; simp only [execOp, e67, e75]; go_simp; try rfl)
                    · (refine OpH.rd rfl rfl (fun ρ us w6 ho ht hc hl hsrc hW => ?_); have e76 := (ht 76 (by decide)).trans (show _ = (.bool false : Value) from rfl); clear ht ho; simp only [execOp, e76]; go_simp; try rfl)
                    · (refine OpH.rdg rfl 39 77 false rfl rfl (by decide) (fun _ _ _ => rfl) (fun ρ us w6 ho ht hc hl hsrc hW => ?_); have e5 := (ho 5 rfl).trans (show _ = ((.pointer (some ⟨w.heap.size + 2, 0, none⟩)) : Value) from rfl); clear ht ho; simp only [execOp, e5]; go_simp; try rfl)
                    · (refine OpH.rdg rfl 39 77 false rfl rfl (by decide) (fun _ _ _ => rfl) (fun ρ us w6 ho ht hc hl hsrc hW => ?_); have e78 := (ht 78 (by decide)).trans (show _ = ((.pointer (some ⟨w.heap.size + 2, 2, none⟩)) : Value) from rfl); obtain ⟨x3, y1, y2, yi, yp, yd, yq⟩ := CEL.out w6 (HB.out.trans (hW.1.mono HB.out.size)); clear ht ho; simp only [execOp, e78]; go_simp; try rfl)
                    · (refine OpH.rdg rfl 39 77 false rfl rfl (by decide) (fun _ _ _ => rfl) (fun ρ us w6 ho ht hc hl hsrc hW => ?_); have e7 := (ho 7 rfl).trans (show _ = (.int .i64 (k : Int) : Value) from rfl); clear ht ho; simp only [execOp, e7]; go_simp; try rfl)
                    · (refine OpH.rdg rfl 39 77 false rfl rfl (by decide) (fun _ _ _ => rfl) (fun ρ us w6 ho ht hc hl hsrc hW => ?_); have e79 := (ht 79 (by decide)).trans (show _ = (.slice (some ⟨bt, ot, none⟩) n0 c1 : Value) from rfl); have e80 := (ht 80 (by decide)).trans (show _ = (.int .i64 (k : Int) : Value) from rfl); clear ht ho; simp only [execOp, e79, e80]; go_simp; try rfl)
                    · (refine OpH.rdg rfl 39 77 false rfl rfl (by decide) (fun _ _ _ => rfl) (fun ρ us w6 ho ht hc hl hsrc hW => ?_); have e81 := (ht 81 (by decide)).trans (show _ = (.pointer (some ⟨bt, ot + k * 2, none⟩) : Value) from rfl); clear ht ho; simp only [execOp, e81]; go_simp; try rfl)
                    · (refine OpH.rdg rfl 39 77 false rfl rfl (by decide) (fun _ _ _ => rfl) (fun ρ us w6 ho ht hc hl hsrc hW => ?_); have e82 := (ht 82 (by decide)).trans (show _ = (.pointer (some ⟨bt, ot + k * 2 + 1, none⟩) : Value) from rfl); obtain ⟨x3, y1, y2, yi, yp, yd, yq⟩ := CEL.out w6 (HB.out.trans (hW.1.mono HB.out.size)); clear ht ho; simp only [execOp, e82]; go_simp; try rfl)
                    · refine OpH.wr rfl (fun Z us w6 ho ht hni hlim hreq hW K hK => ?_)
                      have e83 := (ht 83 (by decide)).trans (show _ = (.int .i64 p.pos : Value) from rfl)
                      have hcl := Num_c (w := w6) (n := p.pos) (m := 63)
                      rw [decide_eq_false (show ¬ (0 ≤ p.pos ∧ p.pos ≤ 63) by omega)] at hcl
                      have eg := (ht 77 (by decide)).trans (show _ = (.bool false : Value) from rfl)
                      refine step_callw (GuardOk.wanted (.at_ (j := 39) (t := 77) (b := false) rfl rfl eg)) 30 #[.tmp 83, .const (.int .i64 63)] #[3, 3] rfl Try.func30 (by kernel_rfl) (by kernel_rfl) #[.int .i64 p.pos, .int .i64 63] (by simp [e83]; try rfl) hcl ?_
                      rintro e w7 ⟨rfl, hb7⟩
                      exact ⟨_, rfl, hK _ _ (hW.snoc hb7 (fun j v h => h) (⟨fun h => absurd h (by decide), fun h => absurd h (by decide), fun _ => rfl⟩))⟩
                    · (refine OpH.rdg rfl 39 77 false rfl rfl (by decide) (fun _ _ _ => rfl) (fun ρ us w6 ho ht hc hl hsrc hW => ?_); have e84 := (ht 84 (by decide)).trans (show _ = ((us.lookup 46).getD undef : Value) from rfl); rw [(hW.at_ (hsrc 46 (by exact (List.mem_singleton.2 rfl : (46 : Nat) ∈ [46])))).2.2 rfl] at e84; clear ht ho; simp only [execOp, e84]; go_simp; try rfl)
                    · (refine OpH.rd rfl rfl (fun ρ us w6 ho ht hc hl hsrc hW => ?_); have e77 := (ht 77 (by decide)).trans (show _ = (.bool false : Value) from rfl); have e85 := (ht 85 (by decide)).trans (show _ = (.bool true : Value) from rfl); clear ht ho; simp only [execOp, e77, e85]; go_simp; try rfl)
                    · intro us w9 hmem hW
                      simp only [putAll, List.map_cons, List.map_nil, List.foldl_cons, List.foldl_nil, Act.put, List.setIfInBounds_toArray, List.set_cons_succ, List.set_cons_zero]
                      generalize hsv : slotAt _ _ us = sv
                      have hq : sv 86 = .bool true := by rw [← hsv]; rfl
                      rw [hq]
                      have HB := Lib.hid (HB.out.trans (hW.1.mono HB.out.size))
                      clear hsv hq hmem hW
                      clear CEL
                      go_wp2
                      go_ret
                      exact ⟨by rw [HF2.out]; rfl, HALL.out _ HB.out⟩
                · have HF2 := Lib.hid (HFAL.out (by rw [HAT.out, decide_eq_false hdk]; simp))
                  go_wp2_with fail
                  clear y1
                  refine region_free (by kernel_rfl) (by kernel_rfl) 92 rfl [38, 39, 40, 41, 42, 43, 44, 45, 46, 47, 48, 49, 50, 51, 52, 53, 54, 55, 56, 57, 58, 59, 60, 61, 62, 63, 64, 65, 66, 67, 68, 69, 70, 71, 72, 73, 74, 75, 76, 77, 78, 79, 80, 81, 82, 83, 84, 85, 86] [9, 36] [(47, 9), (74, 36)]
                    [(38, [], fun _ => (.pointer (some ⟨w.heap.size + 2, 1, none⟩))), (39, [], fun _ => .slice (some ⟨bi, oi, none⟩) n0 c0), (40, [], fun _ => .int .i64 (k : Int)), (41, [], fun _ => .pointer (some ⟨bi, oi + k, none⟩)), (42, [], fun _ => .int .i64 i), (43, [], fun _ => (.pointer (some ⟨w.heap.size + 1, 3, none⟩))), (44, [], fun _ => .slice Ap np cp), (45, [], fun _ => .int .i64 (np : Int)), (46, [], fun _ => .int .i64 ((np : Int) - 1)), (48, [9], fun _ => .bool false), (49, [9], fun _ => .bool false), (50, [], fun _ => .int .i64 (k : Int)), (51, [], fun _ => .bool false), (52, [], fun _ => .bool false), (53, [], fun _ => undef), (54, [], fun _ => undef), (55, [], fun _ => undef), (56, [], fun _ => undef), (57, [], fun _ => undef), (58, [], fun _ => undef), (59, [], fun _ => undef), (60, [], fun _ => undef), (61, [], fun _ => undef), (62, [], fun _ => undef), (63, [], fun _ => undef), (64, [], fun _ => undef), (65, [], fun _ => .bool false), (66, [], fun _ => .bool false), (67, [], fun _ => .bool false), (68, [], fun _ => (.pointer (some ⟨w.heap.size + 2, 2, none⟩))), (69, [], fun _ => .slice (some ⟨bt, ot, none⟩) n0 c1), (70, [], fun _ => .int .i64 (k : Int)), (71, [], fun _ => .pointer (some ⟨bt, ot + k * 2, none⟩)), (72, [], fun _ => .pointer (some ⟨bt, ot + k * 2, none⟩)), (73, [], fun _ => .int .i64 p.disk), (75, [36], fun _ => .bool true), (76, [36], fun _ => .bool true), (77, [36], fun _ => .bool true), (78, [], fun _ => undef), (79, [], fun _ => undef), (80, [], fun _ => undef), (81, [], fun _ => undef), (82, [], fun _ => undef), (83, [], fun _ => undef), (84, [], fun _ => undef), (85, [], fun _ => undef), (86, [36], fun _ => .bool true)]
                    [] [] [[], [38], [], [39, 40], [41], [], [43], [44], [45], [42, 46], [47], [48], [49], [50, 49], [51, 49], [52], [53, 52], [52], [55, 52], [54, 56, 52], [57, 52], [52], [59, 52], [52], [60, 61, 52], [62, 52], [58, 63, 52], [52, 64, 49], [49, 65], [66], [67], [68, 67], [67], [69, 70, 67], [71, 67], [72, 67], [73, 67], [74, 67], [67, 75], [76], [77], [78, 77], [77], [79, 80, 77], [81, 77], [82, 77], [83, 77], [84, 77], [77, 85]]
                    (WdB wr (fun i v _ => (i = 9 → v = .bool true) ∧ (i = 36 → v = .bool false) ∧ (i = 46 → v = .bool true))) (by kernel_rfl) .init ⟨?_, ?_, ?_, ?_, ?_, ?_, ?_, ?_, ?_, ?_, ?_, ?_, ?_, ?_, ?_, ?_, ?_, ?_, ?_, ?_, ?_, ?_, ?_, ?_, ?_, ?_, ?_, ?_, ?_, ?_, ?_, ?_, ?_, ?_, ?_, ?_, ?_, ?_, ?_, ?_, ?_, ?_, ?_, ?_, ?_, ?_, ?_, ?_, ?_, trivial⟩ ?_
                  · (refine OpH.rd rfl rfl (fun ρ us w6 ho ht hc hl hsrc hW => ?_); have e5 := (ho 5 rfl).trans (show _ = ((.pointer (some ⟨w.heap.size + 2, 0, none⟩)) : Value) from rfl); clear ht ho; simp only [execOp, e5]; go_simp; try rfl)
                  · (refine OpH.rd rfl rfl (fun ρ us w6 ho ht hc hl hsrc hW => ?_); have e38 := (ht 38 (by decide)).trans (show _ = ((.pointer (some ⟨w.heap.size + 2, 1, none⟩)) : Value) from rfl); obtain ⟨x3, y1, y2, yi, yp, yd, yq⟩ := CEL.out w6 (HB.out.trans (hW.1.mono HB.out.size)); clear ht ho; simp only [execOp, e38]; go_simp; try rfl)
                  · (refine OpH.rd rfl rfl (fun ρ us w6 ho ht hc hl hsrc hW => ?_); have e7 := (ho 7 rfl).trans (show _ = (.int .i64 (k : Int) : Value) from rfl); clear ht ho; simp only [execOp, e7]; go_simp; try rfl)
                  · (refine OpH.rd rfl rfl (fun ρ us w6 ho ht hc hl hsrc hW => ?_); have e39 := (ht 39 (by decide)).trans (show _ = (.slice (some ⟨bi, oi, none⟩) n0 c0 : Value) from rfl); have e40 := (ht 40 (by decide)).trans (show _ = (.int .i64 (k : Int) : Value) from rfl); clear ht ho; simp only [execOp, e39, e40]; go_simp; try rfl)
                  · (refine OpH.rd rfl rfl (fun ρ us w6 ho ht hc hl hsrc hW => ?_); have e41 := (ht 41 (by decide)).trans (show _ = (.pointer (some ⟨bi, oi + k, none⟩) : Value) from rfl); obtain ⟨x3, y1, y2, yi, yp, yd, yq⟩ := CEL.out w6 (HB.out.trans (hW.1.mono HB.out.size)); clear ht ho; simp only [execOp, e41]; go_simp; try rfl)
                  · (refine OpH.rd rfl rfl (fun ρ us w6 ho ht hc hl hsrc hW => ?_); have e4 := (ho 4 rfl).trans (show _ = ((.pointer (some ⟨w.heap.size + 1, 0, none⟩)) : Value) from rfl); clear ht ho; simp only [execOp, e4]; go_simp; try rfl)
                  · (refine OpH.rd rfl rfl (fun ρ us w6 ho ht hc hl hsrc hW => ?_); have e43 := (ht 43 (by decide)).trans (show _ = ((.pointer (some ⟨w.heap.size + 1, 3, none⟩)) : Value) from rfl); obtain ⟨x3, y1, y2, yi, yp, yd, yq⟩ := CEL.out w6 (HB.out.trans (hW.1.mono HB.out.size)); clear ht ho; simp only [execOp, e43]; go_simp; try rfl)
                  · (refine OpH.rd rfl rfl (fun ρ us w6 ho ht hc hl hsrc hW => ?_); have e44 := (ht 44 (by decide)).trans (show _ = (.slice Ap np cp : Value) from rfl); clear ht ho; simp only [execOp]; go_simp; try rfl)
                  · (refine OpH.rd rfl rfl (fun ρ us w6 ho ht hc hl hsrc hW => ?_); have e45 := (ht 45 (by decide)).trans (show _ = (.int .i64 (np : Int) : Value) from rfl); clear ht ho; simp only [execOp, e45]; go_simp; exact congrArg (Value.int .i64) (Go.IntWalk.i64_in _ (by omega)))
                  · refine OpH.wr rfl (fun Z us w6 ho ht hni hlim hreq hW K hK => ?_)
                    have e42 := (ht 42 (by decide)).trans (show _ = (.int .i64 i : Value) from rfl)
                    have e46 := (ht 46 (by decide)).trans (show _ = (.int .i64 ((np : Int) - 1) : Value) from rfl)
                    have hcl := Num_c (w := w6) (n := i) (m := ((np : Int) - 1))
                    rw [decide_eq_true (show 0 ≤ i ∧ i ≤ ((np : Int) - 1) by omega)] at hcl
                    refine step_call rfl 30 #[.tmp 42, .tmp 46] #[3, 3] rfl Try.func30 (by kernel_rfl) (by kernel_rfl) #[.int .i64 i, .int .i64 ((np : Int) - 1)] (by simp [e42, e46]) (hcl) ?_
                    rintro e w7 ⟨rfl, hb7⟩
                    exact ⟨_, rfl, hK _ _ (hW.snoc hb7 (fun j v h => h) (⟨fun _ => rfl, fun h => absurd h (by decide), fun h => absurd h (by decide)⟩))⟩
                  · (refine OpH.rd rfl rfl (fun ρ us w6 ho ht hc hl hsrc hW => ?_); have e47 := (ht 47 (by decide)).trans (show _ = ((us.lookup 9).getD undef : Value) from rfl); rw [(hW.at_ (hsrc 9 (by exact (List.mem_singleton.2 rfl : (9 : Nat) ∈ [9])))).1 rfl] at e47; clear ht ho; simp only [execOp, e47]; go_simp; try rfl)
                  · (refine OpH.rd rfl rfl (fun ρ us w6 ho ht hc hl hsrc hW => ?_); have e48 := (ht 48 (by decide)).trans (show _ = (.bool false : Value) from rfl); clear ht ho; simp only [execOp, e48]; go_simp; try rfl)
                  · (refine OpH.rdg rfl 11 49 false rfl rfl (by decide) (fun _ _ _ => rfl) (fun ρ us w6 ho ht hc hl hsrc hW => ?_); have e7 := (ho 7 rfl).trans (show _ = (.int .i64 (k : Int) : Value) from rfl); clear ht ho; simp only [execOp, e7]; go_simp; try rfl)
                  · (refine OpH.rdg rfl 11 49 false rfl rfl (by decide) (fun _ _ _ => rfl) (fun ρ us w6 ho ht hc hl hsrc hW => ?_); have e50 := (ht 50 (by decide)).trans (show _ = (.int .i64 (k : Int) : Value) from rfl); clear ht ho; simp only [execOp, e50]; go_simp; first | rfl | exact congrArg Value.bool (decide_eq_true (by omega)) | exact congrArg Value.bool (decide_eq_false (by omega)) | (simp; done) | (simp; omega))
                  · (refine OpH.rdg rfl 11 49 false rfl rfl (by decide) (fun _ _ _ => rfl) (fun ρ us w6 ho ht hc hl hsrc hW => ?_); have e51 := (ht 51 (by decide)).trans (show _ = (.bool false : Value) from rfl); clear ht ho; simp only [execOp, e51]; go_simp; try rfl)
                  · (exact OpH.rdn rfl 14 52 true rfl rfl (by decide) (fun _ _ _ => rfl) (fun _ => rfl))
                  · (exact OpH.rdn rfl 14 52 true rfl rfl (by decide) (fun _ _ _ => rfl) (fun _ => rfl))
                  · (exact OpH.rdn rfl 14 52 true rfl rfl (by decide) (fun _ _ _ => rfl) (fun _ => rfl))
                  · (exact OpH.rdn rfl 14 52 true rfl rfl (by decide) (fun _ _ _ => rfl) (fun _ => rfl))
                  · (exact OpH.rdn rfl 14 52 true rfl rfl (by decide) (fun _ _ _ => rfl) (fun _ => rfl))
                  · (exact OpH.rdn rfl 14 52 true rfl rfl (by decide) (fun _ _ _ => rfl) (fun _ => rfl))
                  · (exact OpH.rdn rfl 14 52 true rfl rfl (by decide) (fun _ _ _ => rfl) (fun _ => rfl))
                  · (exact OpH.rdn rfl 14 52 true rfl rfl (by decide) (fun _ _ _ => rfl) (fun _ => rfl))
                  · (exact OpH.rdn rfl 14 52 true rfl rfl (by decide) (fun _ _ _ => rfl) (fun _ => rfl))
                  · (exact OpH.rdn rfl 14 52 true rfl rfl (by decide) (fun _ _ _ => rfl) (fun _ => rfl))
                  · (exact OpH.rdn rfl 14 52 true rfl rfl (by decide) (fun _ _ _ => rfl) (fun _ => rfl))
                  · (exact OpH.rdn rfl 14 52 true rfl rfl (by decide) (fun _ _ _ => rfl) (fun _ => rfl))
                  · (refine OpH.rdg rfl 11 49 false rfl rfl (by decide) (fun _ _ _ => rfl) (fun ρ us w6 ho ht hc hl hsrc hW => ?_); have e52 := (ht 52 (by decide)).trans (show _ = (.bool false : Value) from rfl); have e64 := (ht 64 (by decide)).trans (show _ = (undef : Value) from rfl); clear ht ho; simp only [execOp, e52, e64]; go_simp; try rfl)
                  · (refine OpH.rd rfl rfl (fun ρ us w6 ho ht hc hl hsrc hW => ?_); have e49 := (ht 49 (by decide)).trans (show _ = (.bool false : Value) from rfl); have e65 := (ht 65 (by decide)).trans (show _ = (.bool false : Value) from rfl); clear ht ho; simp only [execOp, e49, e65]; go_simp; try rfl)
                  · (refine OpH.rd rfl rfl (fun ρ us w6 ho ht hc hl hsrc hW => ?_); have e66 := (ht 66 (by decide)).trans (show _ = (.bool false : Value) from rfl); clear ht ho; simp only [execOp, e66]; go_simp; try rfl)
                  · (refine OpH.rdg rfl 29 67 false rfl rfl (by decide) (fun _ _ _ => rfl) (fun ρ us w6 ho ht hc hl hsrc hW => ?_); have e5 := (ho 5 rfl).trans (show _ = ((.pointer (some ⟨w.heap.size + 2, 0, none⟩)) : Value) from rfl); clear ht ho; simp only [execOp, e5]; go_simp; try rfl)
                  · (refine OpH.rdg rfl 29 67 false rfl rfl (by decide) (fun _ _ _ => rfl) (fun ρ us w6 ho ht hc hl hsrc hW => ?_); have e68 := (ht 68 (by decide)).trans (show _ = ((.pointer (some ⟨w.heap.size + 2, 2, none⟩)) : Value) from rfl); obtain ⟨x3, y1, y2, yi, yp, yd, yq⟩ := CEL.out w6 (HB.out.trans (hW.1.mono HB.out.size)); clear ht ho; simp only [execOp, e68]; go_simp; try rfl)
                  · (refine OpH.rdg rfl 29 67 false rfl rfl (by decide) (fun _ _ _ => rfl) (fun ρ us w6 ho ht hc hl hsrc hW => ?_); have e7 := (ho 7 rfl).trans (show _ = (.int .i64 (k : Int) : Value) from rfl); clear ht ho; simp only [execOp, e7]; go_simp; try rfl)
                  · (refine OpH.rdg rfl 29 67 false rfl rfl (by decide) (fun _ _ _ => rfl) (fun ρ us w6 ho ht hc hl hsrc hW => ?_); have e69 := (ht 69 (by decide)).trans (show _ = (.slice (some ⟨bt, ot, none⟩) n0 c1 : Value) from rfl); have e70 := (ht 70 (by decide)).trans (show _ = (.int .i64 (k : Int) : Value) from rfl); clear ht ho; simp only [execOp, e69, e70]; go_simp; try rfl)
                  · (refine OpH.rdg rfl 29 67 false rfl rfl (by decide) (fun _ _ _ => rfl) (fun ρ us w6 ho ht hc hl hsrc hW => ?_); have e71 := (ht 71 (by decide)).trans (show _ = (.pointer (some ⟨bt, ot + k * 2, none⟩) : Value) from rfl); clear ht ho; simp only [execOp, e71]; go_simp; try rfl)
                  · (refine OpH.rdg rfl 29 67 false rfl rfl (by decide) (fun _ _ _ => rfl) (fun ρ us w6 ho ht hc hl hsrc hW => ?_); have e72 := (ht 72 (by decide)).trans (show _ = (.pointer (some ⟨bt, ot + k * 2, none⟩) : Value) from rfl); obtain ⟨x3, y1, y2, yi, yp, yd, yq⟩ := CEL.out w6 (HB.out.trans (hW.1.mono HB.out.size)); clear ht ho; simp only [execOp, e72]; go_simp; try rfl)
                  · refine OpH.wr rfl (fun Z us w6 ho ht hni hlim hreq hW K hK => ?_)
                    have e73 := (ht 73 (by decide)).trans (show _ = (.int .i64 p.disk : Value) from rfl)
                    have hcl := Num_c (w := w6) (n := p.disk) (m := 11)
                    rw [decide_eq_false (show ¬ (0 ≤ p.disk ∧ p.disk ≤ 11) by omega)] at hcl
                    have eg := (ht 67 (by decide)).trans (show _ = (.bool false : Value) from rfl)
                    refine step_callw (GuardOk.wanted (.at_ (j := 29) (t := 67) (b := false) rfl rfl eg)) 30 #[.tmp 73, .const (.int .i64 11)] #[3, 3] rfl Try.func30 (by kernel_rfl) (by kernel_rfl) #[.int .i64 p.disk, .int .i64 11] (by simp [e73]; try rfl) hcl ?_
                    rintro e w7 ⟨rfl, hb7⟩
                    exact ⟨_, rfl, hK _ _ (hW.snoc hb7 (fun j v h => h) (⟨fun h => absurd h (by decide), fun _ => rfl, fun h => absurd h (by decide)⟩))⟩
                  · (refine OpH.rdg rfl 29 67 false rfl rfl (by decide) (fun _ _ _ => rfl) (fun ρ us w6 ho ht hc hl hsrc hW => ?_); have e74 := (ht 74 (by decide)).trans (show _ = ((us.lookup 36).getD undef : Value) from rfl); rw [(hW.at_ (hsrc 36 (by exact (List.mem_singleton.2 rfl : (36 : Nat) ∈ [36])))).2.1 rfl] at e74; clear ht ho; simp only [execOp, e74]; go_simp; try rfl)
                  · (refine OpH.rd rfl rfl (fun ρ us w6 ho ht hc hl hsrc hW => ?_); have e67 := (ht 67 (by decide)).trans (show _ = (.bool false : Value) from rfl); have e75 := (ht 75 (by decide)).trans (show _ = (.bool true : Value) from rfl); clear ht ho; simp only [execOp, e67, e75]; go_simp; try rfl)
                  · (refine OpH.rd rfl rfl (fun ρ us w6 ho ht hc hl hsrc hW => ?_); have e76 := (ht 76 (by decide)).trans (show _ = (.bool true : Value) from rfl); clear ht ho; simp only [execOp, e76]; go_simp; try rfl)
                  · (exact OpH.rdn rfl 39 77 false rfl rfl (by decide) (fun _ _ _ => rfl) (fun _ => rfl))
                  · (exact OpH.rdn rfl 39 77 false rfl rfl (by decide) (fun _ _ _ => rfl) (fun _ => rfl))
                  · (exact OpH.rdn rfl 39 77 false rfl rfl (by decide) (fun _ _ _ => rfl) (fun _ => rfl))
                  · (exact OpH.rdn rfl 39 77 false rfl rfl (by decide) (fun _ _ _ => rfl) (fun _ => rfl))
                  · (exact OpH.rdn rfl 39 77 false rfl rfl (by decide) (fun _ _ _ => rfl) (fun _ => rfl))
                  · (exact OpH.rdn rfl 39 77 false rfl rfl (by decide) (fun _ _ _ => rfl) (fun _ => rfl))
                  · (exact OpH.rdn rfl 39 77 false rfl rfl (by decide) (fun _ _ _ => rfl) (fun _ => rfl))
                  · (exact OpH.rdn rfl 39 77 false rfl rfl (by decide) (fun _ _ _ => rfl) (fun _ => rfl))
                  · (refine OpH.rd rfl rfl (fun ρ us w6 ho ht hc hl hsrc hW => ?_); have e77 := (ht 77 (by decide)).trans (show _ = (.bool true : Value) from rfl); have e85 := (ht 85 (by decide)).trans (show _ = (undef : Value) from rfl); clear ht ho; simp only [execOp, e77, e85]; go_simp; try rfl)
                  · intro us w9 hmem hW
                    simp only [putAll, List.map_cons, List.map_nil, List.foldl_cons, List.foldl_nil, Act.put, List.setIfInBounds_toArray, List.set_cons_succ, List.set_cons_zero]
                    generalize hsv : slotAt _ _ us = sv
                    have hq : sv 86 = .bool true := by rw [← hsv]; rfl
                    rw [hq]
                    have HB := Lib.hid (HB.out.trans (hW.1.mono HB.out.size))
                    clear hsv hq hmem hW
                    clear CEL
                    go_wp2
                    go_ret
                    exact ⟨by rw [HF2.out]; rfl, HALL.out _ HB.out⟩
            · have HF2 := Lib.hid (HFAL.out (by rw [HAT.out, decide_eq_false hi]; rfl))
              go_wp2_with fail
              clear y1
              refine region_free (by kernel_rfl) (by kernel_rfl) 92 rfl [38, 39, 40, 41, 42, 43, 44, 45, 46, 47, 48, 49, 50, 51, 52, 53, 54, 55, 56, 57, 58, 59, 60, 61, 62, 63, 64, 65, 66, 67, 68, 69, 70, 71, 72, 73, 74, 75, 76, 77, 78, 79, 80, 81, 82, 83, 84, 85, 86] [9] [(47, 9)]
                [(38, [], fun _ => (.pointer (some ⟨w.heap.size + 2, 1, none⟩))), (39, [], fun _ => .slice (some ⟨bi, oi, none⟩) n0 c0), (40, [], fun _ => .int .i64 (k : Int)), (41, [], fun _ => .pointer (some ⟨bi, oi + k, none⟩)), (42, [], fun _ => .int .i64 i), (43, [], fun _ => (.pointer (some ⟨w.heap.size + 1, 3, none⟩))), (44, [], fun _ => .slice Ap np cp), (45, [], fun _ => .int .i64 (np : Int)), (46, [], fun _ => .int .i64 ((np : Int) - 1)), (48, [9], fun _ => .bool true), (49, [9], fun _ => .bool true), (50, [], fun _ => undef), (51, [], fun _ => undef), (52, [], fun _ => undef), (53, [], fun _ => undef), (54, [], fun _ => undef), (55, [], fun _ => undef), (56, [], fun _ => undef), (57, [], fun _ => undef), (58, [], fun _ => undef), (59, [], fun _ => undef), (60, [], fun _ => undef), (61, [], fun _ => undef), (62, [], fun _ => undef), (63, [], fun _ => undef), (64, [], fun _ => undef), (65, [], fun _ => undef), (66, [], fun _ => .bool true), (67, [], fun _ => .bool true), (68, [], fun _ => undef), (69, [], fun _ => undef), (70, [], fun _ => undef), (71, [], fun _ => undef), (72, [], fun _ => undef), (73, [], fun _ => undef), (74, [], fun _ => undef), (75, [], fun _ => undef), (76, [], fun _ => .bool true), (77, [], fun _ => .bool true), (78, [], fun _ => undef), (79, [], fun _ => undef), (80, [], fun _ => undef), (81, [], fun _ => undef), (82, [], fun _ => undef), (83, [], fun _ => undef), (84, [], fun _ => undef), (85, [], fun _ => undef), (86, [], fun _ => .bool true)]
                [] [] [[], [38], [], [39, 40], [41], [], [43], [44], [45], [42, 46], [47], [48], [49], [50, 49], [51, 49], [52], [53, 52], [52], [55, 52], [54, 56, 52], [57, 52], [52], [59, 52], [52], [60, 61, 52], [62, 52], [58, 63, 52], [52, 64, 49], [49, 65], [66], [67], [68, 67], [67], [69, 70, 67], [71, 67], [72, 67], [73, 67], [74, 67], [67, 75], [76], [77], [78, 77], [77], [79, 80, 77], [81, 77], [82, 77], [83, 77], [84, 77], [77, 85]]
                (WdB wr (fun i v _ => (i = 9 → v = .bool false) ∧ (i = 36 → v = .bool true) ∧ (i = 46 → v = .bool true))) (by kernel_rfl) .init ⟨?_, ?_, ?_, ?_, ?_, ?_, ?_, ?_, ?_, ?_, ?_, ?_, ?_, ?_, ?_, ?_, ?_, ?_, ?_, ?_, ?_, ?_, ?_, ?_, ?_, ?_, ?_, ?_, ?_, ?_, ?_, ?_, ?_, ?_, ?_, ?_, ?_, ?_, ?_, ?_, ?_, ?_, ?_, ?_, ?_, ?_, ?_, ?_, ?_, trivial⟩ ?_
              · (refine OpH.rd rfl rfl (fun ρ us w6 ho ht hc hl hsrc hW => ?_); have e5 := (ho 5 rfl).trans (show _ = ((.pointer (some ⟨w.heap.size + 2, 0, none⟩)) : Value) from rfl); clear ht ho; simp only [execOp, e5]; go_simp; try rfl)
              · (refine OpH.rd rfl rfl (fun ρ us w6 ho ht hc hl hsrc hW => ?_); have e38 := (ht 38 (by decide)).trans (show _ = ((.pointer (some ⟨w.heap.size + 2, 1, none⟩)) : Value) from rfl); obtain ⟨x3, y1, y2, yi, yp, yd, yq⟩ := CEL.out w6 (HB.out.trans (hW.1.mono HB.out.size)); clear ht ho; simp only [execOp, e38]; go_simp; try rfl)
              · (refine OpH.rd rfl rfl (fun ρ us w6 ho ht hc hl hsrc hW => ?_); have e7 := (ho 7 rfl).trans (show _ = (.int .i64 (k : Int) : Value) from rfl); clear ht ho; simp only [execOp, e7]; go_simp; try rfl)
              · (refine OpH.rd rfl rfl (fun ρ us w6 ho ht hc hl hsrc hW => ?_); have e39 := (ht 39 (by decide)).trans (show _ = (.slice (some ⟨bi, oi, none⟩) n0 c0 : Value) from rfl); have e40 := (ht 40 (by decide)).trans (show _ = (.int .i64 (k : Int) : Value) from rfl); clear ht ho; simp only [execOp, e39, e40]; go_simp; try rfl)
              · (refine OpH.rd rfl rfl (fun ρ us w6 ho ht hc hl hsrc hW => ?_); have e41 := (ht 41 (by decide)).trans (show _ = (.pointer (some ⟨bi, oi + k, none⟩) : Value) from rfl); obtain ⟨x3, y1, y2, yi, yp, yd, yq⟩ := CEL.out w6 (HB.out.trans (hW.1.mono HB.out.size)); clear ht ho; simp only [execOp, e41]; go_simp; try rfl)
              · (refine OpH.rd rfl rfl (fun ρ us w6 ho ht hc hl hsrc hW => ?_); have e4 := (ho 4 rfl).trans (show _ = ((.pointer (some ⟨w.heap.size + 1, 0, none⟩)) : Value) from rfl); clear ht ho; simp only [execOp, e4]; go_simp; try rfl)
              · (refine OpH.rd rfl rfl (fun ρ us w6 ho ht hc hl hsrc hW => ?_); have e43 := (ht 43 (by decide)).trans (show _ = ((.pointer (some ⟨w.heap.size + 1, 3, none⟩)) : Value) from rfl); obtain ⟨x3, y1, y2, yi, yp, yd, yq⟩ := CEL.out w6 (HB.out.trans (hW.1.mono HB.out.size)); clear ht ho; simp only [execOp, e43]; go_simp; try rfl)
              · (refine OpH.rd rfl rfl (fun ρ us w6 ho ht hc hl hsrc hW => ?_); have e44 := (ht 44 (by decide)).trans (show _ = (.slice Ap np cp : Value) from rfl); clear ht ho; simp only [execOp]; go_simp; try rfl)
              · (refine OpH.rd rfl rfl (fun ρ us w6 ho ht hc hl hsrc hW => ?_); have e45 := (ht 45 (by decide)).trans (show _ = (.int .i64 (np : Int) : Value) from rfl); clear ht ho; simp only [execOp, e45]; go_simp; exact congrArg (Value.int .i64) (Go.IntWalk.i64_in _ (by omega)))
              · refine OpH.wr rfl (fun Z us w6 ho ht hni hlim hreq hW K hK => ?_)
                have e42 := (ht 42 (by decide)).trans (show _ = (.int .i64 i : Value) from rfl)
                have e46 := (ht 46 (by decide)).trans (show _ = (.int .i64 ((np : Int) - 1) : Value) from rfl)
                have hcl := Num_c (w := w6) (n := i) (m := ((np : Int) - 1))
                rw [decide_eq_false (show ¬ (0 ≤ i ∧ i ≤ ((np : Int) - 1)) by omega)] at hcl
                refine step_call rfl 30 #[.tmp 42, .tmp 46] #[3, 3] rfl Try.func30 (by kernel_rfl) (by kernel_rfl) #[.int .i64 i, .int .i64 ((np : Int) - 1)] (by simp [e42, e46]) (hcl) ?_
                rintro e w7 ⟨rfl, hb7⟩
                exact ⟨_, rfl, hK _ _ (hW.snoc hb7 (fun j v h => h) (⟨fun _ => rfl, fun h => absurd h (by decide), fun h => absurd h (by decide)⟩))⟩
              · (refine OpH.rd rfl rfl (fun ρ us w6 ho ht hc hl hsrc hW => ?_); have e47 := (ht 47 (by decide)).trans (show _ = ((us.lookup 9).getD undef : Value) from rfl); rw [(hW.at_ (hsrc 9 (by exact (List.mem_singleton.2 rfl : (9 : Nat) ∈ [9])))).1 rfl] at e47; clear ht ho; simp only [execOp, e47]; go_simp; try rfl)
              · (refine OpH.rd rfl rfl (fun ρ us w6 ho ht hc hl hsrc hW => ?_); have e48 := (ht 48 (by decide)).trans (show _ = (.bool true : Value) from rfl); clear ht ho; simp only [execOp, e48]; go_simp; try rfl)
              · (exact OpH.rdn rfl 11 49 false rfl rfl (by decide) (fun _ _ _ => rfl) (fun _ => rfl))
              · (exact OpH.rdn rfl 11 49 false rfl rfl (by decide) (fun _ _ _ => rfl) (fun _ => rfl))
              · (exact OpH.rdn rfl 11 49 false rfl rfl (by decide) (fun _ _ _ => rfl) (fun _ => rfl))
              · (exact OpH.rdu rfl 14 52 true rfl rfl (by decide) (fun _ _ _ => rfl) (fun _ => rfl))
              · (exact OpH.rdu rfl 14 52 true rfl rfl (by decide) (fun _ _ _ => rfl) (fun _ => rfl))
              · (exact OpH.rdu rfl 14 52 true rfl rfl (by decide) (fun _ _ _ => rfl) (fun _ => rfl))
              · (exact OpH.rdu rfl 14 52 true rfl rfl (by decide) (fun _ _ _ => rfl) (fun _ => rfl))
              · (exact OpH.rdu rfl 14 52 true rfl rfl (by decide) (fun _ _ _ => rfl) (fun _ => rfl))
              · (exact OpH.rdu rfl 14 52 true rfl rfl (by decide) (fun _ _ _ => rfl) (fun _ => rfl))
              · (exact OpH.rdu rfl 14 52 true rfl rfl (by decide) (fun _ _ _ => rfl) (fun _ => rfl))
              · (exact OpH.rdu rfl 14 52 true rfl rfl (by decide) (fun _ _ _ => rfl) (fun _ => rfl))
              · (exact OpH.rdu rfl 14 52 true rfl rfl (by decide) (fun _ _ _ => rfl) (fun _ => rfl))
              · (exact OpH.rdu rfl 14 52 true rfl rfl (by decide) (fun _ _ _ => rfl) (fun _ => rfl))
              · (exact OpH.rdu rfl 14 52 true rfl rfl (by decide) (fun _ _ _ => rfl) (fun _ => rfl))
              · (exact OpH.rdu rfl 14 52 true rfl rfl (by decide) (fun _ _ _ => rfl) (fun _ => rfl))
              · (exact OpH.rdn rfl 11 49 false rfl rfl (by decide) (fun _ _ _ => rfl) (fun _ => rfl))
              · (refine OpH.rd rfl rfl (fun ρ us w6 ho ht hc hl hsrc hW => ?_); have e49 := (ht 49 (by decide)).trans (show _ = (.bool true : Value) from rfl); have e65 := (ht 65 (by decide)).trans (show _ = (undef : Value) from rfl); clear ht ho; simp only [execOp, e49, e65]; go_simp; try rfl)
              · (refine OpH.rd rfl rfl (fun ρ us w6 ho ht hc hl hsrc hW => ?_); have e66 := (ht 66 (by decide)).trans (show _ = (.bool true : Value) from rfl); clear ht ho; simp only [execOp, e66]; go_simp; try rfl)
              · (exact OpH.rdn rfl 29 67 false rfl rfl (by decide) (fun _ _ _ => rfl) (fun _ => rfl))
              · (exact OpH.rdn rfl 29 67 false rfl rfl (by decide) (fun _ _ _ => rfl) (fun _ => rfl))
              · (exact OpH.rdn rfl 29 67 false rfl rfl (by decide) (fun _ _ _ => rfl) (fun _ => rfl))
              · (exact OpH.rdn rfl 29 67 false rfl rfl (by decide) (fun _ _ _ => rfl) (fun _ => rfl))
              · (exact OpH.rdn rfl 29 67 false rfl rfl (by decide) (fun _ _ _ => rfl) (fun _ => rfl))
              · (exact OpH.rdn rfl 29 67 false rfl rfl (by decide) (fun _ _ _ => rfl) (fun _ => rfl))
              · (exact OpH.rdn rfl 29 67 false rfl rfl (by decide) (fun _ _ _ => rfl) (fun _ => rfl))
              · (exact OpH.rdn rfl 29 67 false rfl rfl (by decide) (fun _ _ _ => rfl) (fun _ => rfl))
              · (refine OpH.rd rfl rfl (fun ρ us w6 ho ht hc hl hsrc hW => ?_); have e67 := (ht 67 (by decide)).trans (show _ = (.bool true : Value) from rfl); have e75 := (ht 75 (by decide)).trans (show _ = (undef : Value) from rfl); clear ht ho; simp only [execOp, e67, e75]; go_simp; try rfl)
              · (refine OpH.rd rfl rfl (fun ρ us w6 ho ht hc hl hsrc hW => ?_); have e76 := (ht 76 (by decide)).trans (show _ = (.bool true : Value) from rfl); clear ht ho; simp only [execOp, e76]; go_simp; try rfl)
              · (exact OpH.rdn rfl 39 77 false rfl rfl (by decide) (fun _ _ _ => rfl) (fun _ => rfl))
              · (exact OpH.rdn rfl 39 77 false rfl rfl (by decide) (fun _ _ _ => rfl) (fun _ => rfl))
              · (exact OpH.rdn rfl 39 77 false rfl rfl (by decide) (fun _ _ _ => rfl) (fun _ => rfl))
              · (exact OpH.rdn rfl 39 77 false rfl rfl (by decide) (fun _ _ _ => rfl) (fun _ => rfl))
              · (exact OpH.rdn rfl 39 77 false rfl rfl (by decide) (fun _ _ _ => rfl) (fun _ => rfl))
              · (exact OpH.rdn rfl 39 77 false rfl rfl (by decide) (fun _ _ _ => rfl) (fun _ => rfl))
              · (exact OpH.rdn rfl 39 77 false rfl rfl (by decide) (fun _ _ _ => rfl) (fun _ => rfl))
              · (exact OpH.rdn rfl 39 77 false rfl rfl (by decide) (fun _ _ _ => rfl) (fun _ => rfl))
              · (refine OpH.rd rfl rfl (fun ρ us w6 ho ht hc hl hsrc hW => ?_); have e77 := (ht 77 (by decide)).trans (show _ = (.bool true : Value) from rfl); have e85 := (ht 85 (by decide)).trans (show _ = (undef : Value) from rfl); clear ht ho; simp only [execOp, e77, e85]; go_simp; try rfl)
              · intro us w9 hmem hW
                simp only [putAll, List.map_cons, List.map_nil, List.foldl_cons, List.foldl_nil, Act.put, List.setIfInBounds_toArray, List.set_cons_succ, List.set_cons_zero]
                generalize hsv : slotAt _ _ us = sv
                have hq : sv 86 = .bool true := by rw [← hsv]; rfl
                rw [hq]
                have HB := Lib.hid (HB.out.trans (hW.1.mono HB.out.size))
                clear hsv hq hmem hW
                clear CEL
                go_wp2
                go_ret
                exact ⟨by rw [HF2.out]; rfl, HALL.out _ HB.out⟩
          · have HEQ := Lib.hid (fits_all (s := s) (x := x) (nd := nd) HST.out (by have := HL0.out; have := HL1.out; omega) (by have := HL0.out; have := HLP.out; omega) (fun j hj => he.out j (by have := HL0.out; omega)))
            have hmv := HMV.out (by first | exact rfl | trivial) (fun j hj => fitAt_idx (he.out j (by have := HL0.out; omega)))
            have HM2 := Lib.hid hmv; clear hmv
            clear x0 x1 x2 x3 y0 y2
            go_wp2_with fail
            clear y1
            refine region_free (by kernel_rfl) (by kernel_rfl) 92 rfl [87, 88, 89, 90, 91, 6] [3, 4] [(90, 3), (91, 4)]
              [(87, [], fun _ => .agg #[.int .i64 s.K, .int .i64 s.M, .int .i64 s.size]), (88, [], fun _ => .agg #[.int .i64 x.id, .int .i64 x.len, .int .i64 x.gen, .slice Ap np cp]), (89, [], fun _ => .agg #[.int .i64 nd.stripe, .slice A0 n0 c0, .slice A1 n0 c1]), (6, [4], fun l => l.getD 0 undef)]
              [] [[], [], [], [], [3]] [[], [], [], [88, 89], [87, 90], [91]]
              (WdB wr (RFt s (movedX x nd))) (by kernel_rfl) .init ⟨?_, ?_, ?_, ?_, ?_, ?_, trivial⟩ ?_
            · (refine OpH.rd rfl rfl (fun ρ us w6 ho ht hc hl hsrc hW => ?_); have e3 := (ho 3 rfl).trans (show _ = ((.pointer (some ⟨w.heap.size, 0, none⟩)) : Value) from rfl); obtain ⟨⟨k0, k1, k2⟩, ⟨x0, x1, x2, x3⟩, y0, y1, y2⟩ := ROW.out w6 (HB.out.trans (hW.1.mono HB.out.size)); clear ht ho; simp only [execOp, e3]; go_simp; try rfl)
            · (refine OpH.rd rfl rfl (fun ρ us w6 ho ht hc hl hsrc hW => ?_); have e4 := (ho 4 rfl).trans (show _ = ((.pointer (some ⟨w.heap.size + 1, 0, none⟩)) : Value) from rfl); obtain ⟨⟨k0, k1, k2⟩, ⟨x0, x1, x2, x3⟩, y0, y1, y2⟩ := ROW.out w6 (HB.out.trans (hW.1.mono HB.out.size)); clear ht ho; simp only [execOp, e4]; go_simp; try rfl)
            · (refine OpH.rd rfl rfl (fun ρ us w6 ho ht hc hl hsrc hW => ?_); have e5 := (ho 5 rfl).trans (show _ = ((.pointer (some ⟨w.heap.size + 2, 0, none⟩)) : Value) from rfl); obtain ⟨⟨k0, k1, k2⟩, ⟨x0, x1, x2, x3⟩, y0, y1, y2⟩ := ROW.out w6 (HB.out.trans (hW.1.mono HB.out.size)); clear ht ho; simp only [execOp, e5]; go_simp; try rfl)
            · refine OpH.wr rfl (fun Z us w6 ho ht hni hlim hreq hW K hK => ?_)
              have e88 := (ht 88 (by decide)).trans (show _ = (.agg #[.int .i64 x.id, .int .i64 x.len, .int .i64 x.gen, .slice Ap np cp] : Value) from rfl)
              have e89 := (ht 89 (by decide)).trans (show _ = (.agg #[.int .i64 nd.stripe, .slice A0 n0 c0, .slice A1 n0 c1] : Value) from rfl)
              have hcl := HM2.out w6 (HALL.out _ (HB.out.trans (hW.1.mono HB.out.size)))
              refine step_call rfl 122 #[.tmp 88, .tmp 89] #[79, 88] rfl Try.func122 (by kernel_rfl) (by kernel_rfl) #[.agg #[.int .i64 x.id, .int .i64 x.len, .int .i64 x.gen, .slice Ap np cp], .agg #[.int .i64 nd.stripe, .slice A0 n0 c0, .slice A1 n0 c1]] (by simp [e88, e89]) (hcl) ?_
              rintro e w7 ⟨vs, rfl, ⟨A, n, c, rfl, _, t0⟩, hb7⟩
              exact ⟨_, rfl, hK _ _ (hW.snoc hb7 (fun j v h => RFt.all hb7 j v h) ⟨fun _ => ⟨A, n, c, rfl, t0.mono (fun _ _ _ => trivial)⟩, fun h => absurd h (by decide)⟩)⟩
            · refine OpH.wr rfl (fun Z us w6 ho ht hni hlim hreq hW K hK => ?_)
              obtain ⟨v3, l3, m3⟩ := lookup_mem (hreq 3 (by decide))
              obtain ⟨A, n, c, rfl, t0⟩ := (hW.2 3 v3 m3).1 rfl
              have e87 := (ht 87 (by decide)).trans (show _ = (.agg #[.int .i64 s.K, .int .i64 s.M, .int .i64 s.size] : Value) from rfl)
              have e90 := ((ht 90 (by decide)).trans (show _ = (us.lookup 3).getD undef from rfl)).trans (show _ = (.agg #[.int .i64 (movedX x nd).id, .int .i64 (movedX x nd).len, .int .i64 (movedX x nd).gen, .slice A n c] : Value) by rw [l3]; rfl)
              have hcl := refStripe_c (w := w6) (s := s) (x := movedX x nd) t0
              refine step_call rfl 43 #[.tmp 87, .tmp 90] #[23, 79] rfl Try.func43 (by kernel_rfl) (by kernel_rfl) #[.agg #[.int .i64 s.K, .int .i64 s.M, .int .i64 s.size], .agg #[.int .i64 (movedX x nd).id, .int .i64 (movedX x nd).len, .int .i64 (movedX x nd).gen, .slice A n c]] (by simp [e87, e90]) (hcl) ?_
              rintro e w7 ⟨rfl, hb7⟩
              exact ⟨_, rfl, hK _ _ (hW.snoc hb7 (fun j v h => RFt.all hb7 j v h) ⟨fun h => absurd h (by decide), fun _ => rfl⟩)⟩
            · (refine OpH.rd rfl rfl (fun ρ us w6 ho ht hc hl hsrc hW => ?_); have e91 := (ht 91 (by decide)).trans (show _ = ((us.lookup 4).getD undef : Value) from rfl); clear ht ho; simp only [execOp, e91]; go_simp; try rfl)
            · intro us w9 hmem hW
              have h4 := (hW.at_ (hmem 4 (by decide))).2 rfl
              simp only [putAll, List.map_cons, List.map_nil, List.foldl_cons, List.foldl_nil, Act.put, List.setIfInBounds_toArray, List.set_cons_succ, List.set_cons_zero]
              generalize hsv : slotAt _ _ us = sv
              have hq : sv 6 = .bool (stripeOk s (movedX x nd)) := by rw [← hsv]; exact h4
              rw [hq, ← HEQ.out]
              have HB9 := Lib.hid (HB.out.trans (hW.1.mono HB.out.size))
              clear hsv hq hmem hW h4
              go_wp2
              go_ret
              exact ⟨rfl, HALL.out _ HB9.out⟩
      · have hq3 : ¬ ((n0 : Int) ≤ np) := by omega
        have HF : Hid (fitsB s x nd = false) := Lib.hid (by unfold fitsB; rw [decide_eq_false (show ¬ nd.index.length ≤ x.place.length by have := HL0.out; have := HLP.out; omega), Bool.and_false, Bool.and_false, Bool.false_and])
        go_wp2
        go_ret
        exact ⟨by rw [HF.out]; rfl, HALL.out _ (Below.refl _ _)⟩
    · have hq2 : (((n0 : Nat) : Int) != ((n1 : Nat) : Int)) = true := by simp; omega
      have HF : Hid (fitsB s x nd = false) := Lib.hid (by unfold fitsB; rw [decide_eq_false (show ¬ nd.index.length = nd.to.length by have := HL0.out; have := HL1.out; omega), Bool.false_and, Bool.and_false, Bool.false_and])
      go_wp2
      go_ret
      exact ⟨by rw [HF.out]; rfl, HALL.out _ (Below.refl _ _)⟩
  · have hq : (nd.stripe != x.id) = true := by simp [hst]
    have HF : Hid (fitsB s x nd = false) := Lib.hid (by unfold fitsB; rw [decide_eq_false hst, Bool.false_and, Bool.false_and])
    clear hst
    go_wp2
    go_ret
    exact ⟨by rw [HF.out]; rfl, HALL.out _ (Below.refl _ _)⟩
end Go.Proofs.Ytfccghfcilccfaa
