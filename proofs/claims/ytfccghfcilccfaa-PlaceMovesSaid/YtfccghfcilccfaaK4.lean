/- place.Shift: a piece that may lie on another disk. Printed by gen_k4.py. -/
import Derived.Test.YtfccghfcilccfaaK3
namespace Go.Proofs.Ytfccghfcilccfaa
open Go.RowKit Go.Silo

noncomputable def shiftR (s : Shape) (l : List Stripe) (y : SlotsD) : Need × Int :=
  if (shapeOk s && slotsOkB y && stripesB s l) = true then ((shiftX y l).1, if (shiftX y l).2 = true then 0 else 3) else (noNeed, 1)
theorem slotsOkB_eq {y : SlotsD} {sb : Bool} (h : slotsOkB y = sb) (hs : sb = true) : SlotsOk y := slotsOk_of (h.trans hs)
def RSp (q : Int) (e : Nat) (ps : Int) (V : World) (i : Nat) (v : Value) (W : World) : Prop :=
  (i = 3 → ∃ g, v = .slice (some ⟨g, 0, none⟩) 1 1 ∧ V.heap.size ≤ g ∧ W.heap[g]? = some (.cells #[.int .i64 q] 3 (0, 0))) ∧
  (i = 13 → ∃ g, v = .slice (some ⟨g, 0, none⟩) 1 1 ∧ V.heap.size ≤ g ∧ W.heap[g]? = some (.cells #[.int .i64 (e : Int), .int .i64 ps] 104 (0, 0)))
theorem RSp.all {q : Int} {e : Nat} {ps : Int} {V W W' : World} (hb : Below W.heap.size W W') (j : Nat) (v : Value) (h : RSp q e ps V j v W) : RSp q e ps V j v W' :=
  ⟨fun hj => by obtain ⟨g, a, b, c⟩ := h.1 hj; exact ⟨g, a, b, (hb.block _ (Array.getElem?_eq_some_iff.1 c).1).trans c⟩, fun hj => by obtain ⟨g, a, b, c⟩ := h.2 hj; exact ⟨g, a, b, (hb.block _ (Array.getElem?_eq_some_iff.1 c).1).trans c⟩⟩

set_option maxRecDepth 100000 in
set_option maxHeartbeats 8000000 in
theorem placeShift_c {tg tg1 tg2 : Bool} {S S2 : Nat → Prop} {w : World} {A A0 A1 : Option Addr} {n c n0 c0 n1 c1 : Nat} {s : Shape} {l : List Stripe} {y : SlotsD} (hsI : I64 s.K ∧ I64 s.M ∧ I64 s.size) (h : Sl tg 79 (stripeE tg1) w S A n c l)
    (h0 : Sl tg2 4 boolE w S2 A0 n0 c0 y.live) (h1 : Sl tg2 52 (slE tg2 3 intE) w S2 A1 n1 c1 y.free) (hn : n ≤ 100000000) (hx : ∀ x ∈ l, x.place.length ≤ 100000) :
    Calls Try.prog 68 #[.agg #[.int .i64 s.K, .int .i64 s.M, .int .i64 s.size], .slice A n c, .agg #[.slice A0 n0 c0, .slice A1 n1 c1]] w (RetNd w (shiftR s l y).1 (.int .i64 (shiftR s l y).2)) := by
  have HL := Lib.hid h.len
  have HL0 := Lib.hid h0.len
  have HL1 := Lib.hid h1.len
  have HX := Lib.hid hx; clear hx
  have HSI := Lib.hid hsI; clear hsI
  have hal : Below w.heap.size w (((w.alloc (.cells #[.int .i64 s.K, .int .i64 s.M, .int .i64 s.size] 23)).alloc (.cells #[.slice A0 n0 c0, .slice A1 n1 c1] 62)).alloc (.cells #[.int .i64 0, .slice none 0 0, .slice none 0 0] 88)) := (by repeat' (first | (with_reducible exact Below.refl _ _) | (with_reducible refine Below.alloc ?_ ?_ _) | (with_reducible refine Below.drew ?_) | (with_reducible refine below_drewN ?_ _) | (with_reducible refine Below.setCell ?_ ?_ _) | (refine via ?_ (by with_reducible assumption) ?_) | (refine via ?_ (below_ext _ _) ?_) | go_size))
  have hr0 : (((w.alloc (.cells #[.int .i64 s.K, .int .i64 s.M, .int .i64 s.size] 23)).alloc (.cells #[.slice A0 n0 c0, .slice A1 n1 c1] 62)).alloc (.cells #[.int .i64 0, .slice none 0 0, .slice none 0 0] 88)).heap[w.heap.size]? = some (.cells #[.int .i64 s.K, .int .i64 s.M, .int .i64 s.size] 23 (0, 0)) := (Below.heap_alloc _ _ _ (by simp; omega)).trans ((Below.heap_alloc _ _ _ (by simp)).trans (heap_alloc_new w _))
  have hr1 : (((w.alloc (.cells #[.int .i64 s.K, .int .i64 s.M, .int .i64 s.size] 23)).alloc (.cells #[.slice A0 n0 c0, .slice A1 n1 c1] 62)).alloc (.cells #[.int .i64 0, .slice none 0 0, .slice none 0 0] 88)).heap[w.heap.size + 1]? = some (.cells #[.slice A0 n0 c0, .slice A1 n1 c1] 62 (0, 0)) := by
    have := heap_alloc_new (w.alloc (.cells #[.int .i64 s.K, .int .i64 s.M, .int .i64 s.size] 23)) (.cells #[.slice A0 n0 c0, .slice A1 n1 c1] 62)
    rw [World.size_alloc] at this; exact (Below.heap_alloc _ _ _ (by simp)).trans this
  have hr2 : (((w.alloc (.cells #[.int .i64 s.K, .int .i64 s.M, .int .i64 s.size] 23)).alloc (.cells #[.slice A0 n0 c0, .slice A1 n1 c1] 62)).alloc (.cells #[.int .i64 0, .slice none 0 0, .slice none 0 0] 88)).heap[w.heap.size + 2]? = some (.cells #[.int .i64 0, .slice none 0 0, .slice none 0 0] 88 (0, 0)) := by
    have := heap_alloc_new ((w.alloc (.cells #[.int .i64 s.K, .int .i64 s.M, .int .i64 s.size] 23)).alloc (.cells #[.slice A0 n0 c0, .slice A1 n1 c1] 62)) (.cells #[.int .i64 0, .slice none 0 0, .slice none 0 0] 88)
    rw [World.size_alloc, World.size_alloc] at this; exact this
  have hz : (((w.alloc (.cells #[.int .i64 s.K, .int .i64 s.M, .int .i64 s.size] 23)).alloc (.cells #[.slice A0 n0 c0, .slice A1 n1 c1] 62)).alloc (.cells #[.int .i64 0, .slice none 0 0, .slice none 0 0] 88)).heap.size = w.heap.size + 3 := by simp
  have H := Lib.hid (h.all hal)
  have HSM := Lib.hid (fun W (hW : Below w.heap.size w W) => slotsMay_c (w := W) (h0.all hW) (h1.all hW))
  have HED := Lib.hid (fun (hy : SlotsOk y) W (hW : Below w.heap.size w W) => placeEdges_c (w := W) hy (h0.all hW) (h1.all hW))
  have H1 := Lib.hid (h1.all hal)
  have hlt := edgesN_lt y y.live.length
  have hsp : spreadX y = (if (edgesN y y.live.length).2.2 = true then (lenF y (edgesN y y.live.length).2.1 : Int) - lenF y (edgesN y y.live.length).1 else 0) := rfl
  have hsh : shiftX y l = (if 2 ≤ spreadX y then (if 0 ≤ idxOf (shiftP (edgesN y y.live.length).1 (edgesN y y.live.length).2.1) l then (needOf y (edgesN y y.live.length).1 (edgesN y y.live.length).2.1 (l.getD (idxOf (shiftP (edgesN y y.live.length).1 (edgesN y y.live.length).2.1) l).toNat default), true) else (noNeed, false)) else (noNeed, false)) := rfl
  have hbad : (shapeOk s && slotsOkB y && stripesB s l) = false → shiftR s l y = (noNeed, 1) := fun h => by unfold shiftR; rw [h]; rfl
  have hgood : (shapeOk s && slotsOkB y && stripesB s l) = true → shiftR s l y = ((shiftX y l).1, if (shiftX y l).2 = true then 0 else 3) := fun h => by unfold shiftR; rw [if_pos h]
  generalize shiftR s l y = R at *
  have HBAD := Lib.hid hbad; clear hbad
  have HGOOD := Lib.hid hgood; clear hgood
  have HLT0 := Lib.hid hlt; clear hlt
  have HSPX0 := Lib.hid hsp; clear hsp
  have HSH0 := Lib.hid hsh; clear hsh
  clear h h0 h1
  go_enter Try.func68, Try.ntmps68
  go_upto_region 1 with (fail)
  generalize (((w.alloc (.cells #[.int .i64 s.K, .int .i64 s.M, .int .i64 s.size] 23)).alloc (.cells #[.slice A0 n0 c0, .slice A1 n1 c1] 62)).alloc (.cells #[.int .i64 0, .slice none 0 0, .slice none 0 0] 88)) = W0 at *
  have ROW := Lib.hid (fun V (hV : Below W0.heap.size W0 V) => (show (V.cell? ⟨w.heap.size + 1, 0, none⟩ = some (.slice A0 n0 c0) ∧ V.cell? ⟨w.heap.size + 1, 1, none⟩ = some (.slice A1 n1 c1)) ∧ V.cell? ⟨w.heap.size, 0, none⟩ = some (.int .i64 s.K) ∧ V.cell? ⟨w.heap.size, 1, none⟩ = some (.int .i64 s.M) ∧ V.cell? ⟨w.heap.size, 2, none⟩ = some (.int .i64 s.size) from by
    have r := (hV.block _ (by omega)).trans hr0
    have r' := (hV.block _ (by omega)).trans hr1
    exact ⟨⟨cell_of_row V _ 0 _ _ _ r', cell_of_row V _ 1 _ _ _ r'⟩, cell_of_row V _ 0 _ _ _ r, cell_of_row V _ 1 _ _ _ r, cell_of_row V _ 2 _ _ _ r⟩))
  have ROW1 := Lib.hid (fun V (hV : Below W0.heap.size W0 V) => (hV.block (w.heap.size + 2) (by omega)).trans hr2)
  have HALL := Lib.hid (fun W (hW : Below W0.heap.size W0 W) => hal.trans (hW.mono (by omega)))
  have HBW0 := Lib.hid hz
  clear hr0 hr1 hr2 hal hz
  obtain ⟨_, k0, k1, k2⟩ := ROW.out W0 (Below.refl _ _)
  go_wp2_with fail
  refine (codeMay_c (s := s)).mono ?_
  clear k0 k1 k2
  rintro r w2 ⟨rfl, hb2⟩
  have HB2 := Lib.hid hb2; clear hb2
  cases hshp : shapeOk s with
  | false =>
    have HSHP := Lib.hid hshp; clear hshp
    have HRES : Hid (R = (noNeed, 1)) := Lib.hid (HBAD.out (by rw [HSHP.out]; rfl))
    have hrow := ROW1.out w2 HB2.out
    have f0 := (cell_of_row w2 _ 0 _ _ _ hrow).trans (show _ = some (Value.int .i64 0) from rfl)
    have f1 := (cell_of_row w2 _ 1 _ _ _ hrow).trans (show _ = some (Value.slice none 0 0) from rfl)
    have f2 := (cell_of_row w2 _ 2 _ _ _ hrow).trans (show _ = some (Value.slice none 0 0) from rfl)
    have f4 := frozen_of_row w2 _ 0 _ _ hrow
    have f5 := frozen_of_row w2 _ 1 _ _ hrow
    have f6 := frozen_of_row w2 _ 2 _ _ hrow
    have hsame : Hid (((w2.setCell ⟨w.heap.size + 2, 0, none⟩ (.int .i64 0)).setCell ⟨w.heap.size + 2, 1, none⟩ (.slice none 0 0)).setCell ⟨w.heap.size + 2, 2, none⟩ (.slice none 0 0) = w2) := Lib.hid (by
      rw [setCell_same (k := 0) (v := (.int .i64 0)) hrow rfl, setCell_same (k := 1) (v := (.slice none 0 0)) hrow rfl, setCell_same (k := 2) (v := (.slice none 0 0)) hrow rfl])
    clear hrow
    go_wp2
    rw [hsame.out]
    refine bodyPost_ret (v := .tuple #[.agg #[.int .i64 0, .slice none 0 0, .slice none 0 0], .int .i64 1]) (by simp [results, Try.results68, go_sem, *]; done) rfl ?_
    rw [HRES.out]
    exact RetNd.no (HALL.out _ HB2.out)
  | true =>
    have HSHP := Lib.hid hshp; clear hshp
    obtain ⟨⟨y0, y1⟩, _⟩ := ROW.out w2 HB2.out
    go_wp2_with fail
    refine (HSM.out w2 (HALL.out _ HB2.out)).mono ?_
    clear y0 y1
    rintro r w3 ⟨rfl, hb3⟩
    have HB3 := Lib.hid (HB2.out.trans (hb3.mono HB2.out.size)); clear hb3 HB2
    cases hslo : slotsOkB y with
    | false =>
      have HSLO := Lib.hid hslo; clear hslo
      have HRES : Hid (R = (noNeed, 1)) := Lib.hid (HBAD.out (by rw [HSHP.out, HSLO.out]; rfl))
      have hrow := ROW1.out w3 HB3.out
      have f0 := (cell_of_row w3 _ 0 _ _ _ hrow).trans (show _ = some (Value.int .i64 0) from rfl)
      have f1 := (cell_of_row w3 _ 1 _ _ _ hrow).trans (show _ = some (Value.slice none 0 0) from rfl)
      have f2 := (cell_of_row w3 _ 2 _ _ _ hrow).trans (show _ = some (Value.slice none 0 0) from rfl)
      have f4 := frozen_of_row w3 _ 0 _ _ hrow
      have f5 := frozen_of_row w3 _ 1 _ _ hrow
      have f6 := frozen_of_row w3 _ 2 _ _ hrow
      have hsame : Hid (((w3.setCell ⟨w.heap.size + 2, 0, none⟩ (.int .i64 0)).setCell ⟨w.heap.size + 2, 1, none⟩ (.slice none 0 0)).setCell ⟨w.heap.size + 2, 2, none⟩ (.slice none 0 0) = w3) := Lib.hid (by
        rw [setCell_same (k := 0) (v := (.int .i64 0)) hrow rfl, setCell_same (k := 1) (v := (.slice none 0 0)) hrow rfl, setCell_same (k := 2) (v := (.slice none 0 0)) hrow rfl])
      clear hrow
      go_wp2
      rw [hsame.out]
      refine bodyPost_ret (v := .tuple #[.agg #[.int .i64 0, .slice none 0 0, .slice none 0 0], .int .i64 1]) (by simp [results, Try.results68, go_sem, *]; done) rfl ?_
      rw [HRES.out]
      exact RetNd.no (HALL.out _ HB3.out)
    | true =>
      have HY := Lib.hid (slotsOk_of hslo)
      have HSLO := Lib.hid hslo; clear hslo
      have hn10 : n1 = n0 := by have := HY.out.same; have := HL0.out; have := HL1.out; omega
      subst hn10
      have hn12 : n1 ≤ 12 := by have := HY.out.most; have := HL0.out; omega
      go_wp2_with fail
      go_loopw [27] (fun i wr => ∃ k : Nat, k ≤ n ∧ i = .int .i64 k ∧ Hid (Below W0.heap.size W0 wr) ∧ Hid (∀ j, j < k → stripesAt s l j = true)) (fun i _ => n - (intOf i).toNat)
      case atStart => exact ⟨0, Nat.zero_le _, rfl, HB3, Lib.hid (fun j hj => by omega)⟩
      case round =>
        clear HB3
        obtain ⟨k, hk, rfl, HB, he⟩ := hrel
        by_cases hlt : k < n
        · obtain ⟨b, o, A3, n3, c3, rfl, _, hbl, i1, i2, i3, hpl, z0, z1, z2, z3, _⟩ := H.out.stripe_at hlt
          have hat : stripesAt s l k = (stripeOk s (l.getD k default) && !(decide (0 < k) && decide ((l.getD k default).id ≤ (l.getD (k - 1) default).id))) := rfl
          have hprev : 0 < k → W0.cell? ⟨b, o + (k - 1) * 4, none⟩ = some (.int .i64 (l.getD (k - 1) default).id) := fun h0k => by
            obtain ⟨b', o', _, _, _, e, _, _, _, _, _, _, zz, _⟩ := H.out.stripe_at (show k - 1 < n by omega)
            injection e with e; injection e with e1 e2; subst e1 e2; exact zz
          have HPREV := Lib.hid hprev; clear hprev
          generalize l.getD k default = x at *
          generalize (l.getD (k - 1) default).id = xp at *
          have HXI := Lib.hid (show I64 x.id ∧ I64 x.len ∧ I64 x.gen from ⟨i1, i2, i3⟩); clear i1 i2 i3
          have HAT := Lib.hid hat; clear hat
          have HFF := Lib.hid (fun hf : stripesAt s l k = false => stripesB_false (s := s) (l := l) (by have := HL.out; omega) hf)
          have HNEXT := Lib.hid (fun (hf : stripesAt s l k = true) j (hj : j < k + 1) => (show stripesAt s l j = true from by
            rcases Nat.lt_or_ge j k with hjk | hjk
            · exact he.out j hjk
            · obtain rfl : j = k := by omega
              exact hf))
          have zz0 := (HB.out.cell (p := ⟨b, o + k * 4, none⟩) hbl).trans z0
          have zz1 := (HB.out.cell (p := ⟨b, o + k * 4 + 1, none⟩) hbl).trans z1
          have zz2 := (HB.out.cell (p := ⟨b, o + k * 4 + 2, none⟩) hbl).trans z2
          have zz3 := (HB.out.cell (p := ⟨b, o + k * 4 + 3, none⟩) hbl).trans z3
          go_upto_region 6 with (fail)
          have hbrow := heap_alloc_new wr (.cells #[.int .i64 x.id, .int .i64 x.len, .int .i64 x.gen, .slice A3 n3 c3] 79)
          have hbal : Below wr.heap.size wr (wr.alloc (.cells #[.int .i64 x.id, .int .i64 x.len, .int .i64 x.gen, .slice A3 n3 c3] 79)) := (Below.refl _ _).alloc (Nat.le_refl _) _
          have hblt : wr.heap.size < (wr.alloc (.cells #[.int .i64 x.id, .int .i64 x.len, .int .i64 x.gen, .slice A3 n3 c3] 79)).heap.size := by simp
          have HBb := Lib.hid (HB.out.trans (hbal.mono HB.out.size))
          clear zz0 zz1 zz2 zz3 z0 z1 z2 z3 he hbal
          generalize (wr.alloc (.cells #[.int .i64 x.id, .int .i64 x.len, .int .i64 x.gen, .slice A3 n3 c3] 79)) = wb at *
          generalize wr.heap.size = gb at *
          have HPL := Lib.hid (fun V (hV : Below wb.heap.size wb V) => hpl.all (HBb.out.trans (hV.mono HBb.out.size)))
          have CEL := Lib.hid (fun w6 (hb : Below wb.heap.size wb w6) => And.intro (ROW.out w6 (HBb.out.trans (hb.mono HBb.out.size))).2.1 (And.intro (ROW.out w6 (HBb.out.trans (hb.mono HBb.out.size))).2.2.1 (And.intro (ROW.out w6 (HBb.out.trans (hb.mono HBb.out.size))).2.2.2 (And.intro (cell_of_row _ _ 0 _ _ _ ((hb.block _ hblt).trans hbrow)) (And.intro (cell_of_row _ _ 1 _ _ _ ((hb.block _ hblt).trans hbrow)) (And.intro (cell_of_row _ _ 2 _ _ _ ((hb.block _ hblt).trans hbrow)) (And.intro (cell_of_row _ _ 3 _ _ _ ((hb.block _ hblt).trans hbrow)) (fun h0k : 0 < k => ((HBb.out.trans (hb.mono HBb.out.size)).cell (p := ⟨b, o + (k - 1) * 4, none⟩) hbl).trans (HPREV.out h0k)))))))))
          clear hpl hbrow hblt HB
          cases hok : stripeOk s x with
          | false =>
            have HOK := Lib.hid hok
            have HBADL := Lib.hid (HFF.out (by rw [HAT.out, hok]; rfl))
            clear hok HNEXT
            refine region_free (by kernel_rfl) (by kernel_rfl) 112 rfl [32, 33, 34, 35, 36, 37, 38, 39, 40, 41, 42, 43, 44, 45, 46, 47, 48, 49, 50] [2] [(34, 2)]
              [(32, [], fun _ => .agg #[.int .i64 s.K, .int .i64 s.M, .int .i64 s.size]), (33, [], fun _ => .agg #[.int .i64 x.id, .int .i64 x.len, .int .i64 x.gen, .slice A3 n3 c3]), (35, [2], fun _ => .bool true), (36, [2], fun _ => .bool true), (37, [], fun _ => undef), (38, [], fun _ => undef), (39, [], fun _ => undef), (40, [], fun _ => undef), (41, [], fun _ => undef), (42, [], fun _ => undef), (43, [], fun _ => undef), (44, [], fun _ => undef), (45, [], fun _ => undef), (46, [], fun _ => undef), (47, [], fun _ => undef), (48, [], fun _ => undef), (49, [], fun _ => undef), (50, [], fun _ => .bool true)]
              [] [] [[], [], [32, 33], [34], [35], [36], [37, 36], [38, 36], [39], [40, 39], [39], [39], [43, 39], [42, 44, 39], [45, 39], [46, 39], [41, 47, 39], [39, 48, 36], [36, 49]]
              (WdB wb (fun i v _ => i = 2 → v = .bool false)) (by kernel_rfl) .init ⟨?_, ?_, ?_, ?_, ?_, ?_, ?_, ?_, ?_, ?_, ?_, ?_, ?_, ?_, ?_, ?_, ?_, ?_, ?_, trivial⟩ ?_
            · (refine OpH.rd rfl rfl (fun ρ us w6 ho ht hc hl hsrc hW => ?_); have e3 := (ho 3 rfl).trans (show _ = ((.pointer (some ⟨w.heap.size, 0, none⟩)) : Value) from rfl); obtain ⟨k0, k1, k2, z0, z1, z2, z3, zp⟩ := CEL.out w6 hW.1; clear ht ho; simp only [execOp, e3]; go_simp; try rfl)
            · (refine OpH.rd rfl rfl (fun ρ us w6 ho ht hc hl hsrc hW => ?_); have e9 := (ho 9 rfl).trans (show _ = ((.pointer (some ⟨gb, 0, none⟩)) : Value) from rfl); obtain ⟨k0, k1, k2, z0, z1, z2, z3, zp⟩ := CEL.out w6 hW.1; clear ht ho; simp only [execOp, e9]; go_simp; try rfl)
            · refine OpH.wr rfl (fun Z us w6 ho ht hni hlim hreq hW K hK => ?_)
              have e32 := (ht 32 (by decide)).trans (show _ = (.agg #[.int .i64 s.K, .int .i64 s.M, .int .i64 s.size] : Value) from rfl)
              have e33 := (ht 33 (by decide)).trans (show _ = (.agg #[.int .i64 x.id, .int .i64 x.len, .int .i64 x.gen, .slice A3 n3 c3] : Value) from rfl)
              have hcl := placeMay_c (w := w6) (s := s) (x := x) HSI.out HXI.out (HPL.out w6 hW.1)
              rw [HOK.out] at hcl
              refine step_call rfl 107 #[.tmp 32, .tmp 33] #[23, 79] rfl Try.func107 (by kernel_rfl) (by kernel_rfl) #[.agg #[.int .i64 s.K, .int .i64 s.M, .int .i64 s.size], .agg #[.int .i64 x.id, .int .i64 x.len, .int .i64 x.gen, .slice A3 n3 c3]] (by simp [e32, e33]) (hcl) ?_
              rintro e w7 ⟨rfl, hb7⟩
              exact ⟨_, rfl, hK _ _ (hW.snoc hb7 (fun j v h => h) (fun _ => rfl))⟩
            · (refine OpH.rd rfl rfl (fun ρ us w6 ho ht hc hl hsrc hW => ?_); have e34 := (ht 34 (by decide)).trans (show _ = ((us.lookup 2).getD undef : Value) from rfl); rw [hW.at_ (hsrc 2 (by exact (List.mem_singleton.2 rfl : (2 : Nat) ∈ [2]))) rfl] at e34; clear ht ho; simp only [execOp, e34]; go_simp; try rfl)
            · (refine OpH.rd rfl rfl (fun ρ us w6 ho ht hc hl hsrc hW => ?_); have e35 := (ht 35 (by decide)).trans (show _ = (.bool true : Value) from rfl); clear ht ho; simp only [execOp, e35]; go_simp; try rfl)
            · (exact OpH.rdn rfl 4 36 false rfl rfl (by decide) (fun _ _ _ => rfl) (fun _ => rfl))
            · (exact OpH.rdn rfl 4 36 false rfl rfl (by decide) (fun _ _ _ => rfl) (fun _ => rfl))
            · (exact OpH.rdn rfl 4 36 false rfl rfl (by decide) (fun _ _ _ => rfl) (fun _ => rfl))
            · (exact OpH.rdu rfl 7 39 true rfl rfl (by decide) (fun _ _ _ => rfl) (fun _ => rfl))
            · (exact OpH.rdu rfl 7 39 true rfl rfl (by decide) (fun _ _ _ => rfl) (fun _ => rfl))
            · (exact OpH.rdu rfl 7 39 true rfl rfl (by decide) (fun _ _ _ => rfl) (fun _ => rfl))
            · (exact OpH.rdu rfl 7 39 true rfl rfl (by decide) (fun _ _ _ => rfl) (fun _ => rfl))
            · (exact OpH.rdu rfl 7 39 true rfl rfl (by decide) (fun _ _ _ => rfl) (fun _ => rfl))
            · (exact OpH.rdu rfl 7 39 true rfl rfl (by decide) (fun _ _ _ => rfl) (fun _ => rfl))
            · (exact OpH.rdu rfl 7 39 true rfl rfl (by decide) (fun _ _ _ => rfl) (fun _ => rfl))
            · (exact OpH.rdu rfl 7 39 true rfl rfl (by decide) (fun _ _ _ => rfl) (fun _ => rfl))
            · (exact OpH.rdu rfl 7 39 true rfl rfl (by decide) (fun _ _ _ => rfl) (fun _ => rfl))
            · (exact OpH.rdn rfl 4 36 false rfl rfl (by decide) (fun _ _ _ => rfl) (fun _ => rfl))
            · (refine OpH.rd rfl rfl (fun ρ us w6 ho ht hc hl hsrc hW => ?_); have e36 := (ht 36 (by decide)).trans (show _ = (.bool true : Value) from rfl); have e49 := (ht 49 (by decide)).trans (show _ = (undef : Value) from rfl); clear ht ho; simp only [execOp, e36, e49]; go_simp; try rfl)
            · intro us w9 hmem hW
              simp only [putAll, List.map_cons, List.map_nil, List.foldl_cons, List.foldl_nil, Act.put, List.setIfInBounds_toArray, List.set_cons_succ, List.set_cons_zero]
              generalize hsv : slotAt _ _ us = sv
              have hq : sv 50 = .bool true := by rw [← hsv]; rfl
              rw [hq]
              have HB := Lib.hid hW.1
              clear hsv hq hmem hW
              have HBf := Lib.hid (HBb.out.trans (HB.out.mono HBb.out.size))
              clear CEL HPL HB
              have HRES : Hid (R = (noNeed, 1)) := Lib.hid (HBAD.out (by rw [HBADL.out, Bool.and_false]))
              have hrow := ROW1.out w9 HBf.out
              have f0 := (cell_of_row w9 _ 0 _ _ _ hrow).trans (show _ = some (Value.int .i64 0) from rfl)
              have f1 := (cell_of_row w9 _ 1 _ _ _ hrow).trans (show _ = some (Value.slice none 0 0) from rfl)
              have f2 := (cell_of_row w9 _ 2 _ _ _ hrow).trans (show _ = some (Value.slice none 0 0) from rfl)
              have f4 := frozen_of_row w9 _ 0 _ _ hrow
              have f5 := frozen_of_row w9 _ 1 _ _ hrow
              have f6 := frozen_of_row w9 _ 2 _ _ hrow
              have hsame : Hid (((w9.setCell ⟨w.heap.size + 2, 0, none⟩ (.int .i64 0)).setCell ⟨w.heap.size + 2, 1, none⟩ (.slice none 0 0)).setCell ⟨w.heap.size + 2, 2, none⟩ (.slice none 0 0) = w9) := Lib.hid (by
                rw [setCell_same (k := 0) (v := (.int .i64 0)) hrow rfl, setCell_same (k := 1) (v := (.slice none 0 0)) hrow rfl, setCell_same (k := 2) (v := (.slice none 0 0)) hrow rfl])
              clear hrow
              go_wp2
              rw [hsame.out]
              refine bodyPost_ret (v := .tuple #[.agg #[.int .i64 0, .slice none 0 0, .slice none 0 0], .int .i64 1]) (by simp [results, Try.results68, go_sem, *]; done) rfl ?_
              rw [HRES.out]
              exact RetNd.no (HALL.out _ HBf.out)
          | true =>
            have HOK := Lib.hid hok
            by_cases hk0 : 0 < k
            · have hk1 : k - 1 < n := by omega
              by_cases hle : x.id ≤ xp
              · have HBADL := Lib.hid (HFF.out (by rw [HAT.out, hok, decide_eq_true hk0, decide_eq_true hle]; rfl))
                clear hok HNEXT
                refine region_free (by kernel_rfl) (by kernel_rfl) 112 rfl [32, 33, 34, 35, 36, 37, 38, 39, 40, 41, 42, 43, 44, 45, 46, 47, 48, 49, 50] [2] [(34, 2)]
                  [(32, [], fun _ => .agg #[.int .i64 s.K, .int .i64 s.M, .int .i64 s.size]), (33, [], fun _ => .agg #[.int .i64 x.id, .int .i64 x.len, .int .i64 x.gen, .slice A3 n3 c3]), (35, [2], fun _ => .bool false), (36, [2], fun _ => .bool false), (37, [], fun _ => .int .i64 (k : Int)), (38, [], fun _ => .bool true), (39, [], fun _ => .bool true), (40, [], fun _ => (.pointer (some ⟨gb, 0, none⟩))), (41, [], fun _ => .int .i64 x.id), (42, [], fun _ => (.slice (some ⟨b, o, none⟩) n c)), (43, [], fun _ => .int .i64 (k : Int)), (44, [], fun _ => .int .i64 ((k - 1 : Nat) : Int)), (45, [], fun _ => .pointer (some ⟨b, o + (k - 1) * 4, none⟩)), (46, [], fun _ => .pointer (some ⟨b, o + (k - 1) * 4, none⟩)), (47, [], fun _ => .int .i64 xp), (48, [], fun _ => .bool true), (49, [], fun _ => .bool true), (50, [], fun _ => .bool true)]
                  [] [] [[], [], [32, 33], [34], [35], [36], [37, 36], [38, 36], [39], [40, 39], [39], [39], [43, 39], [42, 44, 39], [45, 39], [46, 39], [41, 47, 39], [39, 48, 36], [36, 49]]
                  (WdB wb (fun i v _ => i = 2 → v = .bool true)) (by kernel_rfl) .init ⟨?_, ?_, ?_, ?_, ?_, ?_, ?_, ?_, ?_, ?_, ?_, ?_, ?_, ?_, ?_, ?_, ?_, ?_, ?_, trivial⟩ ?_
                · (refine OpH.rd rfl rfl (fun ρ us w6 ho ht hc hl hsrc hW => ?_); have e3 := (ho 3 rfl).trans (show _ = ((.pointer (some ⟨w.heap.size, 0, none⟩)) : Value) from rfl); obtain ⟨k0, k1, k2, z0, z1, z2, z3, zp⟩ := CEL.out w6 hW.1; clear ht ho; simp only [execOp, e3]; go_simp; try rfl)
                · (refine OpH.rd rfl rfl (fun ρ us w6 ho ht hc hl hsrc hW => ?_); have e9 := (ho 9 rfl).trans (show _ = ((.pointer (some ⟨gb, 0, none⟩)) : Value) from rfl); obtain ⟨k0, k1, k2, z0, z1, z2, z3, zp⟩ := CEL.out w6 hW.1; clear ht ho; simp only [execOp, e9]; go_simp; try rfl)
                · refine OpH.wr rfl (fun Z us w6 ho ht hni hlim hreq hW K hK => ?_)
                  have e32 := (ht 32 (by decide)).trans (show _ = (.agg #[.int .i64 s.K, .int .i64 s.M, .int .i64 s.size] : Value) from rfl)
                  have e33 := (ht 33 (by decide)).trans (show _ = (.agg #[.int .i64 x.id, .int .i64 x.len, .int .i64 x.gen, .slice A3 n3 c3] : Value) from rfl)
                  have hcl := placeMay_c (w := w6) (s := s) (x := x) HSI.out HXI.out (HPL.out w6 hW.1)
                  rw [HOK.out] at hcl
                  refine step_call rfl 107 #[.tmp 32, .tmp 33] #[23, 79] rfl Try.func107 (by kernel_rfl) (by kernel_rfl) #[.agg #[.int .i64 s.K, .int .i64 s.M, .int .i64 s.size], .agg #[.int .i64 x.id, .int .i64 x.len, .int .i64 x.gen, .slice A3 n3 c3]] (by simp [e32, e33]) (hcl) ?_
                  rintro e w7 ⟨rfl, hb7⟩
                  exact ⟨_, rfl, hK _ _ (hW.snoc hb7 (fun j v h => h) (fun _ => rfl))⟩
                · (refine OpH.rd rfl rfl (fun ρ us w6 ho ht hc hl hsrc hW => ?_); have e34 := (ht 34 (by decide)).trans (show _ = ((us.lookup 2).getD undef : Value) from rfl); rw [hW.at_ (hsrc 2 (by exact (List.mem_singleton.2 rfl : (2 : Nat) ∈ [2]))) rfl] at e34; clear ht ho; simp only [execOp, e34]; go_simp; try rfl)
                · (refine OpH.rd rfl rfl (fun ρ us w6 ho ht hc hl hsrc hW => ?_); have e35 := (ht 35 (by decide)).trans (show _ = (.bool false : Value) from rfl); clear ht ho; simp only [execOp, e35]; go_simp; try rfl)
                · (refine OpH.rdg rfl 4 36 false rfl rfl (by decide) (fun _ _ _ => rfl) (fun ρ us w6 ho ht hc hl hsrc hW => ?_); have e8 := (ho 8 rfl).trans (show _ = (.int .i64 (k : Int) : Value) from rfl); clear ht ho; simp only [execOp, e8]; go_simp; try rfl)
                · (refine OpH.rdg rfl 4 36 false rfl rfl (by decide) (fun _ _ _ => rfl) (fun ρ us w6 ho ht hc hl hsrc hW => ?_); have e37 := (ht 37 (by decide)).trans (show _ = (.int .i64 (k : Int) : Value) from rfl); clear ht ho; simp only [execOp, e37]; go_simp; first | rfl | exact congrArg Value.bool (decide_eq_true (by omega)) | exact congrArg Value.bool (decide_eq_false (by omega)) | (simp; done) | (simp; omega))
                · (refine OpH.rdg rfl 4 36 false rfl rfl (by decide) (fun _ _ _ => rfl) (fun ρ us w6 ho ht hc hl hsrc hW => ?_); have e38 := (ht 38 (by decide)).trans (show _ = (.bool true : Value) from rfl); clear ht ho; simp only [execOp, e38]; go_simp; try rfl)
                · (refine OpH.rdg rfl 7 39 true rfl rfl (by decide) (fun _ _ _ => rfl) (fun ρ us w6 ho ht hc hl hsrc hW => ?_); have e9 := (ho 9 rfl).trans (show _ = ((.pointer (some ⟨gb, 0, none⟩)) : Value) from rfl); clear ht ho; simp only [execOp, e9]; go_simp; try rfl)
                · (refine OpH.rdg rfl 7 39 true rfl rfl (by decide) (fun _ _ _ => rfl) (fun ρ us w6 ho ht hc hl hsrc hW => ?_); have e40 := (ht 40 (by decide)).trans (show _ = ((.pointer (some ⟨gb, 0, none⟩)) : Value) from rfl); obtain ⟨k0, k1, k2, z0, z1, z2, z3, zp⟩ := CEL.out w6 hW.1; clear ht ho; simp only [execOp, e40]; go_simp; try rfl)
                · (refine OpH.rdg rfl 7 39 true rfl rfl (by decide) (fun _ _ _ => rfl) (fun ρ us w6 ho ht hc hl hsrc hW => ?_); have e1 := (ho 1 rfl).trans (show _ = ((.slice (some ⟨b, o, none⟩) n c) : Value) from rfl); clear ht ho; simp only [execOp, e1]; go_simp; try rfl)
                · (refine OpH.rdg rfl 7 39 true rfl rfl (by decide) (fun _ _ _ => rfl) (fun ρ us w6 ho ht hc hl hsrc hW => ?_); have e8 := (ho 8 rfl).trans (show _ = (.int .i64 (k : Int) : Value) from rfl); clear ht ho; simp only [execOp, e8]; go_simp; try rfl)
                · (refine OpH.rdg rfl 7 39 true rfl rfl (by decide) (fun _ _ _ => rfl) (fun ρ us w6 ho ht hc hl hsrc hW => ?_); have e43 := (ht 43 (by decide)).trans (show _ = (.int .i64 (k : Int) : Value) from rfl); clear ht ho; simp only [execOp, e43]; go_simp; exact (congrArg (Value.int .i64) (Go.IntWalk.i64_in _ (by omega))).trans (congrArg (Value.int .i64) (by omega)))
                · (refine OpH.rdg rfl 7 39 true rfl rfl (by decide) (fun _ _ _ => rfl) (fun ρ us w6 ho ht hc hl hsrc hW => ?_); have e42 := (ht 42 (by decide)).trans (show _ = ((.slice (some ⟨b, o, none⟩) n c) : Value) from rfl); have e44 := (ht 44 (by decide)).trans (show _ = (.int .i64 ((k - 1 : Nat) : Int) : Value) from rfl); clear ht ho; simp only [execOp, e42, e44]; go_simp; try rfl)
                · (refine OpH.rdg rfl 7 39 true rfl rfl (by decide) (fun _ _ _ => rfl) (fun ρ us w6 ho ht hc hl hsrc hW => ?_); have e45 := (ht 45 (by decide)).trans (show _ = (.pointer (some ⟨b, o + (k - 1) * 4, none⟩) : Value) from rfl); clear ht ho; simp only [execOp, e45]; go_simp; try rfl)
                · (refine OpH.rdg rfl 7 39 true rfl rfl (by decide) (fun _ _ _ => rfl) (fun ρ us w6 ho ht hc hl hsrc hW => ?_); have e46 := (ht 46 (by decide)).trans (show _ = (.pointer (some ⟨b, o + (k - 1) * 4, none⟩) : Value) from rfl); obtain ⟨k0, k1, k2, z0, z1, z2, z3, zp⟩ := CEL.out w6 hW.1; clear ht ho; simp only [execOp, e46]; go_simp; try rfl)
                · (refine OpH.rdg rfl 7 39 true rfl rfl (by decide) (fun _ _ _ => rfl) (fun ρ us w6 ho ht hc hl hsrc hW => ?_); have e41 := (ht 41 (by decide)).trans (show _ = (.int .i64 x.id : Value) from rfl); have e47 := (ht 47 (by decide)).trans (show _ = (.int .i64 xp : Value) from rfl); clear ht ho; simp only [execOp, e41, e47]; go_simp; first | rfl | exact congrArg Value.bool (decide_eq_true (by omega)) | exact congrArg Value.bool (decide_eq_false (by omega)) | (simp; done) | (simp; omega))
                · (refine OpH.rdg rfl 4 36 false rfl rfl (by decide) (fun _ _ _ => rfl) (fun ρ us w6 ho ht hc hl hsrc hW => ?_); have e39 := (ht 39 (by decide)).trans (show _ = (.bool true : Value) from rfl); have e48 := (ht 48 (by decide)).trans (show _ = (.bool true : Value) from rfl); clear ht ho; simp only [execOp, e39, e48]; go_simp; try rfl)
                · (refine OpH.rd rfl rfl (fun ρ us w6 ho ht hc hl hsrc hW => ?_); have e36 := (ht 36 (by decide)).trans (show _ = (.bool false : Value) from rfl); have e49 := (ht 49 (by decide)).trans (show _ = (.bool true : Value) from rfl); clear ht ho; simp only [execOp, e36, e49]; go_simp; try rfl)
                · intro us w9 hmem hW
                  simp only [putAll, List.map_cons, List.map_nil, List.foldl_cons, List.foldl_nil, Act.put, List.setIfInBounds_toArray, List.set_cons_succ, List.set_cons_zero]
                  generalize hsv : slotAt _ _ us = sv
                  have hq : sv 50 = .bool true := by rw [← hsv]; rfl
                  rw [hq]
                  have HB := Lib.hid hW.1
                  clear hsv hq hmem hW
                  have HBf := Lib.hid (HBb.out.trans (HB.out.mono HBb.out.size))
                  clear CEL HPL HB
                  have HRES : Hid (R = (noNeed, 1)) := Lib.hid (HBAD.out (by rw [HBADL.out, Bool.and_false]))
                  have hrow := ROW1.out w9 HBf.out
                  have f0 := (cell_of_row w9 _ 0 _ _ _ hrow).trans (show _ = some (Value.int .i64 0) from rfl)
                  have f1 := (cell_of_row w9 _ 1 _ _ _ hrow).trans (show _ = some (Value.slice none 0 0) from rfl)
                  have f2 := (cell_of_row w9 _ 2 _ _ _ hrow).trans (show _ = some (Value.slice none 0 0) from rfl)
                  have f4 := frozen_of_row w9 _ 0 _ _ hrow
                  have f5 := frozen_of_row w9 _ 1 _ _ hrow
                  have f6 := frozen_of_row w9 _ 2 _ _ hrow
                  have hsame : Hid (((w9.setCell ⟨w.heap.size + 2, 0, none⟩ (.int .i64 0)).setCell ⟨w.heap.size + 2, 1, none⟩ (.slice none 0 0)).setCell ⟨w.heap.size + 2, 2, none⟩ (.slice none 0 0) = w9) := Lib.hid (by
                    rw [setCell_same (k := 0) (v := (.int .i64 0)) hrow rfl, setCell_same (k := 1) (v := (.slice none 0 0)) hrow rfl, setCell_same (k := 2) (v := (.slice none 0 0)) hrow rfl])
                  clear hrow
                  go_wp2
                  rw [hsame.out]
                  refine bodyPost_ret (v := .tuple #[.agg #[.int .i64 0, .slice none 0 0, .slice none 0 0], .int .i64 1]) (by simp [results, Try.results68, go_sem, *]; done) rfl ?_
                  rw [HRES.out]
                  exact RetNd.no (HALL.out _ HBf.out)
              · have HF := Lib.hid (HNEXT.out (by rw [HAT.out, hok, decide_eq_true hk0, decide_eq_false hle]; rfl))
                clear hok HNEXT
                refine region_free (by kernel_rfl) (by kernel_rfl) 112 rfl [32, 33, 34, 35, 36, 37, 38, 39, 40, 41, 42, 43, 44, 45, 46, 47, 48, 49, 50] [2] [(34, 2)]
                  [(32, [], fun _ => .agg #[.int .i64 s.K, .int .i64 s.M, .int .i64 s.size]), (33, [], fun _ => .agg #[.int .i64 x.id, .int .i64 x.len, .int .i64 x.gen, .slice A3 n3 c3]), (35, [2], fun _ => .bool false), (36, [2], fun _ => .bool false), (37, [], fun _ => .int .i64 (k : Int)), (38, [], fun _ => .bool true), (39, [], fun _ => .bool true), (40, [], fun _ => (.pointer (some ⟨gb, 0, none⟩))), (41, [], fun _ => .int .i64 x.id), (42, [], fun _ => (.slice (some ⟨b, o, none⟩) n c)), (43, [], fun _ => .int .i64 (k : Int)), (44, [], fun _ => .int .i64 ((k - 1 : Nat) : Int)), (45, [], fun _ => .pointer (some ⟨b, o + (k - 1) * 4, none⟩)), (46, [], fun _ => .pointer (some ⟨b, o + (k - 1) * 4, none⟩)), (47, [], fun _ => .int .i64 xp), (48, [], fun _ => .bool false), (49, [], fun _ => .bool false), (50, [], fun _ => .bool false)]
                  [] [] [[], [], [32, 33], [34], [35], [36], [37, 36], [38, 36], [39], [40, 39], [39], [39], [43, 39], [42, 44, 39], [45, 39], [46, 39], [41, 47, 39], [39, 48, 36], [36, 49]]
                  (WdB wb (fun i v _ => i = 2 → v = .bool true)) (by kernel_rfl) .init ⟨?_, ?_, ?_, ?_, ?_, ?_, ?_, ?_, ?_, ?_, ?_, ?_, ?_, ?_, ?_, ?_, ?_, ?_, ?_, trivial⟩ ?_
                · (refine OpH.rd rfl rfl (fun ρ us w6 ho ht hc hl hsrc hW => ?_); have e3 := (ho 3 rfl).trans (show _ = ((.pointer (some ⟨w.heap.size, 0, none⟩)) : Value) from rfl); obtain ⟨k0, k1, k2, z0, z1, z2, z3, zp⟩ := CEL.out w6 hW.1; clear ht ho; simp only [execOp, e3]; go_simp; try rfl)
                · (refine OpH.rd rfl rfl (fun ρ us w6 ho ht hc hl hsrc hW => ?_); have e9 := (ho 9 rfl).trans (show _ = ((.pointer (some ⟨gb, 0, none⟩)) : Value) from rfl); obtain ⟨k0, k1, k2, z0, z1, z2, z3, zp⟩ := CEL.out w6 hW.1; clear ht ho; simp only [execOp, e9]; go_simp; try rfl)
                · refine OpH.wr rfl (fun Z us w6 ho ht hni hlim hreq hW K hK => ?_)
                  have e32 := (ht 32 (by decide)).trans (show _ = (.agg #[.int .i64 s.K, .int .i64 s.M, .int .i64 s.size] : Value) from rfl)
                  have e33 := (ht 33 (by decide)).trans (show _ = (.agg #[.int .i64 x.id, .int .i64 x.len, .int .i64 x.gen, .slice A3 n3 c3] : Value) from rfl)
                  have hcl := placeMay_c (w := w6) (s := s) (x := x) HSI.out HXI.out (HPL.out w6 hW.1)
                  rw [HOK.out] at hcl
                  refine step_call rfl 107 #[.tmp 32, .tmp 33] #[23, 79] rfl Try.func107 (by kernel_rfl) (by kernel_rfl) #[.agg #[.int .i64 s.K, .int .i64 s.M, .int .i64 s.size], .agg #[.int .i64 x.id, .int .i64 x.len, .int .i64 x.gen, .slice A3 n3 c3]] (by simp [e32, e33]) (hcl) ?_
                  rintro e w7 ⟨rfl, hb7⟩
                  exact ⟨_, rfl, hK _ _ (hW.snoc hb7 (fun j v h => h) (fun _ => rfl))⟩
                · (refine OpH.rd rfl rfl (fun ρ us w6 ho ht hc hl hsrc hW => ?_); have e34 := (ht 34 (by decide)).trans (show _ = ((us.lookup 2).getD undef : Value) from rfl); rw [hW.at_ (hsrc 2 (by exact (List.mem_singleton.2 rfl : (2 : Nat) ∈ [2]))) rfl] at e34; clear ht ho; simp only [execOp, e34]; go_simp; try rfl)
                · (refine OpH.rd rfl rfl (fun ρ us w6 ho ht hc hl hsrc hW => ?_); have e35 := (ht 35 (by decide)).trans (show _ = (.bool false : Value) from rfl); clear ht ho; simp only [execOp, e35]; go_simp; try rfl)
                · (refine OpH.rdg rfl 4 36 false rfl rfl (by decide) (fun _ _ _ => rfl) (fun ρ us w6 ho ht hc hl hsrc hW => ?_); have e8 := (ho 8 rfl).trans (show _ = (.int .i64 (k : Int) : Value) from rfl); clear ht ho; simp only [execOp, e8]; go_simp; try rfl)
                · (refine OpH.rdg rfl 4 36 false rfl rfl (by decide) (fun _ _ _ => rfl) (fun ρ us w6 ho ht hc hl hsrc hW => ?_); have e37 := (ht 37 (by decide)).trans (show _ = (.int .i64 (k : Int) : Value) from rfl); clear ht ho; simp only [execOp, e37]; go_simp; first | rfl | exact congrArg Value.bool (decide_eq_true (by omega)) | exact congrArg Value.bool (decide_eq_false (by omega)) | (simp; done) | (simp; omega))
                · (refine OpH.rdg rfl 4 36 false rfl rfl (by decide) (fun _ _ _ => rfl) (fun ρ us w6 ho ht hc hl hsrc hW => ?_); have e38 := (ht 38 (by decide)).trans (show _ = (.bool true : Value) from rfl); clear ht ho; simp only [execOp, e38]; go_simp; try rfl)
                · (refine OpH.rdg rfl 7 39 true rfl rfl (by decide) (fun _ _ _ => rfl) (fun ρ us w6 ho ht hc hl hsrc hW => ?_); have e9 := (ho 9 rfl).trans (show _ = ((.pointer (some ⟨gb, 0, none⟩)) : Value) from rfl); clear ht ho; simp only [execOp, e9]; go_simp; try rfl)
                · (refine OpH.rdg rfl 7 39 true rfl rfl (by decide) (fun _ _ _ => rfl) (fun ρ us w6 ho ht hc hl hsrc hW => ?_); have e40 := (ht 40 (by decide)).trans (show _ = ((.pointer (some ⟨gb, 0, none⟩)) : Value) from rfl); obtain ⟨k0, k1, k2, z0, z1, z2, z3, zp⟩ := CEL.out w6 hW.1; clear ht ho; simp only [execOp, e40]; go_simp; try rfl)
                · (refine OpH.rdg rfl 7 39 true rfl rfl (by decide) (fun _ _ _ => rfl) (fun ρ us w6 ho ht hc hl hsrc hW => ?_); have e1 := (ho 1 rfl).trans (show _ = ((.slice (some ⟨b, o, none⟩) n c) : Value) from rfl); clear ht ho; simp only [execOp, e1]; go_simp; try rfl)
                · (refine OpH.rdg rfl 7 39 true rfl rfl (by decide) (fun _ _ _ => rfl) (fun ρ us w6 ho ht hc hl hsrc hW => ?_); have e8 := (ho 8 rfl).trans (show _ = (.int .i64 (k : Int) : Value) from rfl); clear ht ho; simp only [execOp, e8]; go_simp; try rfl)
                · (refine OpH.rdg rfl 7 39 true rfl rfl (by decide) (fun _ _ _ => rfl) (fun ρ us w6 ho ht hc hl hsrc hW => ?_); have e43 := (ht 43 (by decide)).trans (show _ = (.int .i64 (k : Int) : Value) from rfl); clear ht ho; simp only [execOp, e43]; go_simp; exact (congrArg (Value.int .i64) (Go.IntWalk.i64_in _ (by omega))).trans (congrArg (Value.int .i64) (by omega)))
                · (refine OpH.rdg rfl 7 39 true rfl rfl (by decide) (fun _ _ _ => rfl) (fun ρ us w6 ho ht hc hl hsrc hW => ?_); have e42 := (ht 42 (by decide)).trans (show _ = ((.slice (some ⟨b, o, none⟩) n c) : Value) from rfl); have e44 := (ht 44 (by decide)).trans (show _ = (.int .i64 ((k - 1 : Nat) : Int) : Value) from rfl); clear ht ho; simp only [execOp, e42, e44]; go_simp; try rfl)
                · (refine OpH.rdg rfl 7 39 true rfl rfl (by decide) (fun _ _ _ => rfl) (fun ρ us w6 ho ht hc hl hsrc hW => ?_); have e45 := (ht 45 (by decide)).trans (show _ = (.pointer (some ⟨b, o + (k - 1) * 4, none⟩) : Value) from rfl); clear ht ho; simp only [execOp, e45]; go_simp; try rfl)
                · (refine OpH.rdg rfl 7 39 true rfl rfl (by decide) (fun _ _ _ => rfl) (fun ρ us w6 ho ht hc hl hsrc hW => ?_); have e46 := (ht 46 (by decide)).trans (show _ = (.pointer (some ⟨b, o + (k - 1) * 4, none⟩) : Value) from rfl); obtain ⟨k0, k1, k2, z0, z1, z2, z3, zp⟩ := CEL.out w6 hW.1; clear ht ho; simp only [execOp, e46]; go_simp; try rfl)
                · (refine OpH.rdg rfl 7 39 true rfl rfl (by decide) (fun _ _ _ => rfl) (fun ρ us w6 ho ht hc hl hsrc hW => ?_); have e41 := (ht 41 (by decide)).trans (show _ = (.int .i64 x.id : Value) from rfl); have e47 := (ht 47 (by decide)).trans (show _ = (.int .i64 xp : Value) from rfl); clear ht ho; simp only [execOp, e41, e47]; go_simp; first | rfl | exact congrArg Value.bool (decide_eq_true (by omega)) | exact congrArg Value.bool (decide_eq_false (by omega)) | (simp; done) | (simp; omega))
                · (refine OpH.rdg rfl 4 36 false rfl rfl (by decide) (fun _ _ _ => rfl) (fun ρ us w6 ho ht hc hl hsrc hW => ?_); have e39 := (ht 39 (by decide)).trans (show _ = (.bool true : Value) from rfl); have e48 := (ht 48 (by decide)).trans (show _ = (.bool false : Value) from rfl); clear ht ho; simp only [execOp, e39, e48]; go_simp; try rfl)
                · (refine OpH.rd rfl rfl (fun ρ us w6 ho ht hc hl hsrc hW => ?_); have e36 := (ht 36 (by decide)).trans (show _ = (.bool false : Value) from rfl); have e49 := (ht 49 (by decide)).trans (show _ = (.bool false : Value) from rfl); clear ht ho; simp only [execOp, e36, e49]; go_simp; try rfl)
                · intro us w9 hmem hW
                  simp only [putAll, List.map_cons, List.map_nil, List.foldl_cons, List.foldl_nil, Act.put, List.setIfInBounds_toArray, List.set_cons_succ, List.set_cons_zero]
                  generalize hsv : slotAt _ _ us = sv
                  have hq : sv 50 = .bool false := by rw [← hsv]; rfl
                  rw [hq]
                  have HB := Lib.hid hW.1
                  clear hsv hq hmem hW
                  have HBf := Lib.hid (HBb.out.trans (HB.out.mono HBb.out.size))
                  clear CEL HPL HB
                  go_wp2
                  exact ⟨⟨k + 1, by omega, by go_num, HBf, HF⟩, by simp [intOf]; omega⟩
            · have HF := Lib.hid (HNEXT.out (by rw [HAT.out, hok, decide_eq_false hk0]; rfl))
              clear hok HNEXT
              refine region_free (by kernel_rfl) (by kernel_rfl) 112 rfl [32, 33, 34, 35, 36, 37, 38, 39, 40, 41, 42, 43, 44, 45, 46, 47, 48, 49, 50] [2] [(34, 2)]
                [(32, [], fun _ => .agg #[.int .i64 s.K, .int .i64 s.M, .int .i64 s.size]), (33, [], fun _ => .agg #[.int .i64 x.id, .int .i64 x.len, .int .i64 x.gen, .slice A3 n3 c3]), (35, [2], fun _ => .bool false), (36, [2], fun _ => .bool false), (37, [], fun _ => .int .i64 (k : Int)), (38, [], fun _ => .bool false), (39, [], fun _ => .bool false), (40, [], fun _ => undef), (41, [], fun _ => undef), (42, [], fun _ => undef), (43, [], fun _ => undef), (44, [], fun _ => undef), (45, [], fun _ => undef), (46, [], fun _ => undef), (47, [], fun _ => undef), (48, [], fun _ => undef), (49, [], fun _ => .bool false), (50, [], fun _ => .bool false)]
                [] [] [[], [], [32, 33], [34], [35], [36], [37, 36], [38, 36], [39], [40, 39], [39], [39], [43, 39], [42, 44, 39], [45, 39], [46, 39], [41, 47, 39], [39, 48, 36], [36, 49]]
                (WdB wb (fun i v _ => i = 2 → v = .bool true)) (by kernel_rfl) .init ⟨?_, ?_, ?_, ?_, ?_, ?_, ?_, ?_, ?_, ?_, ?_, ?_, ?_, ?_, ?_, ?_, ?_, ?_, ?_, trivial⟩ ?_
              · (refine OpH.rd rfl rfl (fun ρ us w6 ho ht hc hl hsrc hW => ?_); have e3 := (ho 3 rfl).trans (show _ = ((.pointer (some ⟨w.heap.size, 0, none⟩)) : Value) from rfl); obtain ⟨k0, k1, k2, z0, z1, z2, z3, zp⟩ := CEL.out w6 hW.1; clear ht ho; simp only [execOp, e3]; go_simp; try rfl)
              · (refine OpH.rd rfl rfl (fun ρ us w6 ho ht hc hl hsrc hW => ?_); have e9 := (ho 9 rfl).trans (show _ = ((.pointer (some ⟨gb, 0, none⟩)) : Value) from rfl); obtain ⟨k0, k1, k2, z0, z1, z2, z3, zp⟩ := CEL.out w6 hW.1; clear ht ho; simp only [execOp, e9]; go_simp; try rfl)
              · refine OpH.wr rfl (fun Z us w6 ho ht hni hlim hreq hW K hK => ?_)
                have e32 := (ht 32 (by decide)).trans (show _ = (.agg #[.int .i64 s.K, .int .i64 s.M, .int .i64 s.size] : Value) from rfl)
                have e33 := (ht 33 (by decide)).trans (show _ = (.agg #[.int .i64 x.id, .int .i64 x.len, .int .i64 x.gen, .slice A3 n3 c3] : Value) from rfl)
                have hcl := placeMay_c (w := w6) (s := s) (x := x) HSI.out HXI.out (HPL.out w6 hW.1)
                rw [HOK.out] at hcl
                refine step_call rfl 107 #[.tmp 32, .tmp 33] #[23, 79] rfl Try.func107 (by kernel_rfl) (by kernel_rfl) #[.agg #[.int .i64 s.K, .int .i64 s.M, .int .i64 s.size], .agg #[.int .i64 x.id, .int .i64 x.len, .int .i64 x.gen, .slice A3 n3 c3]] (by simp [e32, e33]) (hcl) ?_
                rintro e w7 ⟨rfl, hb7⟩
                exact ⟨_, rfl, hK _ _ (hW.snoc hb7 (fun j v h => h) (fun _ => rfl))⟩
              · (refine OpH.rd rfl rfl (fun ρ us w6 ho ht hc hl hsrc hW => ?_); have e34 := (ht 34 (by decide)).trans (show _ = ((us.lookup 2).getD undef : Value) from rfl); rw [hW.at_ (hsrc 2 (by exact (List.mem_singleton.2 rfl : (2 : Nat) ∈ [2]))) rfl] at e34; clear ht ho; simp only [execOp, e34]; go_simp; try rfl)
              · (refine OpH.rd rfl rfl (fun ρ us w6 ho ht hc hl hsrc hW => ?_); have e35 := (ht 35 (by decide)).trans (show _ = (.bool false : Value) from rfl); clear ht ho; simp only [execOp, e35]; go_simp; try rfl)
              · (refine OpH.rdg rfl 4 36 false rfl rfl (by decide) (fun _ _ _ => rfl) (fun ρ us w6 ho ht hc hl hsrc hW => ?_); have e8 := (ho 8 rfl).trans (show _ = (.int .i64 (k : Int) : Value) from rfl); clear ht ho; simp only [execOp, e8]; go_simp; try rfl)
              · (refine OpH.rdg rfl 4 36 false rfl rfl (by decide) (fun _ _ _ => rfl) (fun ρ us w6 ho ht hc hl hsrc hW => ?_); have e37 := (ht 37 (by decide)).trans (show _ = (.int .i64 (k : Int) : Value) from rfl); clear ht ho; simp only [execOp, e37]; go_simp; first | rfl | exact congrArg Value.bool (decide_eq_true (by omega)) | exact congrArg Value.bool (decide_eq_false (by omega)) | (simp; done) | (simp; omega))
              · (refine OpH.rdg rfl 4 36 false rfl rfl (by decide) (fun _ _ _ => rfl) (fun ρ us w6 ho ht hc hl hsrc hW => ?_); have e38 := (ht 38 (by decide)).trans (show _ = (.bool false : Value) from rfl); clear ht ho; simp only [execOp, e38]; go_simp; try rfl)
              · (exact OpH.rdn rfl 7 39 true rfl rfl (by decide) (fun _ _ _ => rfl) (fun _ => rfl))
              · (exact OpH.rdn rfl 7 39 true rfl rfl (by decide) (fun _ _ _ => rfl) (fun _ => rfl))
              · (exact OpH.rdn rfl 7 39 true rfl rfl (by decide) (fun _ _ _ => rfl) (fun _ => rfl))
              · (exact OpH.rdn rfl 7 39 true rfl rfl (by decide) (fun _ _ _ => rfl) (fun _ => rfl))
              · (exact OpH.rdn rfl 7 39 true rfl rfl (by decide) (fun _ _ _ => rfl) (fun _ => rfl))
              · (exact OpH.rdn rfl 7 39 true rfl rfl (by decide) (fun _ _ _ => rfl) (fun _ => rfl))
              · (exact OpH.rdn rfl 7 39 true rfl rfl (by decide) (fun _ _ _ => rfl) (fun _ => rfl))
              · (exact OpH.rdn rfl 7 39 true rfl rfl (by decide) (fun _ _ _ => rfl) (fun _ => rfl))
              · (exact OpH.rdn rfl 7 39 true rfl rfl (by decide) (fun _ _ _ => rfl) (fun _ => rfl))
              · (refine OpH.rdg rfl 4 36 false rfl rfl (by decide) (fun _ _ _ => rfl) (fun ρ us w6 ho ht hc hl hsrc hW => ?_); have e39 := (ht 39 (by decide)).trans (show _ = (.bool false : Value) from rfl); have e48 := (ht 48 (by decide)).trans (show _ = (undef : Value) from rfl); clear ht ho; simp only [execOp, e39, e48]; go_simp; try rfl)
              · (refine OpH.rd rfl rfl (fun ρ us w6 ho ht hc hl hsrc hW => ?_); have e36 := (ht 36 (by decide)).trans (show _ = (.bool false : Value) from rfl); have e49 := (ht 49 (by decide)).trans (show _ = (.bool false : Value) from rfl); clear ht ho; simp only [execOp, e36, e49]; go_simp; try rfl)
              · intro us w9 hmem hW
                simp only [putAll, List.map_cons, List.map_nil, List.foldl_cons, List.foldl_nil, Act.put, List.setIfInBounds_toArray, List.set_cons_succ, List.set_cons_zero]
                generalize hsv : slotAt _ _ us = sv
                have hq : sv 50 = .bool false := by rw [← hsv]; rfl
                rw [hq]
                have HB := Lib.hid hW.1
                clear hsv hq hmem hW
                have HBf := Lib.hid (HBb.out.trans (HB.out.mono HBb.out.size))
                clear CEL HPL HB
                go_wp2
                exact ⟨⟨k + 1, by omega, by go_num, HBf, HF⟩, by simp [intOf]; omega⟩
        · have HALLS : Hid (stripesB s l = true) := Lib.hid (stripesB_true (fun j hj => he.out j (by have := HL.out; omega)))
          have HGD : Hid (R = ((shiftX y l).1, if (shiftX y l).2 = true then 0 else 3)) := Lib.hid (HGOOD.out (by rw [HSHP.out, HSLO.out, HALLS.out]; rfl))
          clear HGOOD HBAD he HALLS
          have hq := HED.out HY.out wr (HALL.out _ HB.out)
          have hlt0 := HLT0.out
          have hsp := HSPX0.out
          have hsh := HSH0.out
          clear HLT0 HSPX0 HSH0 HED
          rw [HL0.out] at hq hlt0 hsp hsh
          generalize spreadX y = sp at *
          generalize shiftX y l = RR at *
          generalize edgesN y n1 = E at *
          obtain ⟨f, e, ob⟩ := E
          have HQ := Lib.hid hq; clear hq
          have HSH := Lib.hid hsh; clear hsh
          have HSPX := Lib.hid hsp; clear hsp
          have HLT := Lib.hid hlt0; clear hlt0
          obtain ⟨⟨y0, y1⟩, _⟩ := ROW.out wr HB.out
          go_wp2_with fail
          refine HQ.out.mono ?_
          clear HQ y0 y1
          rintro r w4 ⟨rfl, hb4⟩
          have HB4 := Lib.hid (HB.out.trans (hb4.mono HB.out.size)); clear hb4 HB
          cases ob with
          | false =>
            have HR3 : Hid (R = (noNeed, 3)) := Lib.hid (by
              have h1 : sp = 0 := HSPX.out.trans (if_neg (by simp))
              have h2 := HSH.out
              rw [if_neg (by omega)] at h2
              rw [HGD.out, h2]; rfl)
            go_wp2_with fail
            refine region_free (by kernel_rfl) (by kernel_rfl) 112 rfl [59, 60, 61, 62, 63, 64, 65, 66, 67, 68, 69, 70, 71, 72, 73, 74, 75, 76] [] []
              [(59, [], fun _ => .bool false), (60, [], fun _ => .bool true), (61, [], fun _ => .bool true), (62, [], fun _ => undef), (63, [], fun _ => undef), (64, [], fun _ => undef), (65, [], fun _ => undef), (66, [], fun _ => undef), (67, [], fun _ => undef), (68, [], fun _ => undef), (69, [], fun _ => undef), (70, [], fun _ => undef), (71, [], fun _ => undef), (72, [], fun _ => undef), (73, [], fun _ => undef), (74, [], fun _ => undef), (75, [], fun _ => undef), (76, [], fun _ => .bool true)]
              [] [] [[], [59], [60], [61], [62, 61], [61], [63, 64, 61], [65, 61], [66, 61], [61], [68, 61], [61], [69, 70, 61], [71, 61], [72, 61], [67, 73, 61], [74, 61], [61, 75]]
              (WdB w4 (fun _ _ _ => True)) (by kernel_rfl) .init ⟨?_, ?_, ?_, ?_, ?_, ?_, ?_, ?_, ?_, ?_, ?_, ?_, ?_, ?_, ?_, ?_, ?_, ?_, trivial⟩ ?_
            · (refine OpH.rd rfl rfl (fun ρ us w6 ho ht hc hl hsrc hW => ?_); have e12 := (ho 12 rfl).trans (show _ = (.bool false : Value) from rfl); clear ht ho; simp only [execOp, e12]; go_simp; try rfl)
            · (refine OpH.rd rfl rfl (fun ρ us w6 ho ht hc hl hsrc hW => ?_); have e59 := (ht 59 (by decide)).trans (show _ = (.bool false : Value) from rfl); clear ht ho; simp only [execOp, e59]; go_simp; try rfl)
            · (refine OpH.rd rfl rfl (fun ρ us w6 ho ht hc hl hsrc hW => ?_); have e60 := (ht 60 (by decide)).trans (show _ = (.bool true : Value) from rfl); clear ht ho; simp only [execOp, e60]; go_simp; try rfl)
            · (exact OpH.rdn rfl 2 61 false rfl rfl (by decide) (fun _ _ _ => rfl) (fun _ => rfl))
            · (exact OpH.rdn rfl 2 61 false rfl rfl (by decide) (fun _ _ _ => rfl) (fun _ => rfl))
            · (exact OpH.rdn rfl 2 61 false rfl rfl (by decide) (fun _ _ _ => rfl) (fun _ => rfl))
            · (exact OpH.rdn rfl 2 61 false rfl rfl (by decide) (fun _ _ _ => rfl) (fun _ => rfl))
            · (exact OpH.rdn rfl 2 61 false rfl rfl (by decide) (fun _ _ _ => rfl) (fun _ => rfl))
            · (exact OpH.rdn rfl 2 61 false rfl rfl (by decide) (fun _ _ _ => rfl) (fun _ => rfl))
            · (exact OpH.rdn rfl 2 61 false rfl rfl (by decide) (fun _ _ _ => rfl) (fun _ => rfl))
            · (exact OpH.rdn rfl 2 61 false rfl rfl (by decide) (fun _ _ _ => rfl) (fun _ => rfl))
            · (exact OpH.rdn rfl 2 61 false rfl rfl (by decide) (fun _ _ _ => rfl) (fun _ => rfl))
            · (exact OpH.rdn rfl 2 61 false rfl rfl (by decide) (fun _ _ _ => rfl) (fun _ => rfl))
            · (exact OpH.rdn rfl 2 61 false rfl rfl (by decide) (fun _ _ _ => rfl) (fun _ => rfl))
            · (exact OpH.rdn rfl 2 61 false rfl rfl (by decide) (fun _ _ _ => rfl) (fun _ => rfl))
            · (exact OpH.rdn rfl 2 61 false rfl rfl (by decide) (fun _ _ _ => rfl) (fun _ => rfl))
            · (exact OpH.rdn rfl 2 61 false rfl rfl (by decide) (fun _ _ _ => rfl) (fun _ => rfl))
            · (refine OpH.rd rfl rfl (fun ρ us w6 ho ht hc hl hsrc hW => ?_); have e61 := (ht 61 (by decide)).trans (show _ = (.bool true : Value) from rfl); have e75 := (ht 75 (by decide)).trans (show _ = (undef : Value) from rfl); clear ht ho; simp only [execOp, e61, e75]; go_simp; try rfl)
            · intro us w9 hmem hW
              simp only [putAll, List.map_cons, List.map_nil, List.foldl_cons, List.foldl_nil, Act.put, List.setIfInBounds_toArray, List.set_cons_succ, List.set_cons_zero]
              generalize hsv : slotAt _ _ us = sv
              have hq : sv 76 = .bool true := by rw [← hsv]; rfl
              rw [hq]
              have HB9 := Lib.hid (HB4.out.trans (hW.1.mono HB4.out.size))
              clear hsv hq hmem hW
              have HRES : Hid (R = (noNeed, 3)) := Lib.hid (HR3.out)
              have hrow := ROW1.out w9 HB9.out
              have f0 := (cell_of_row w9 _ 0 _ _ _ hrow).trans (show _ = some (Value.int .i64 0) from rfl)
              have f1 := (cell_of_row w9 _ 1 _ _ _ hrow).trans (show _ = some (Value.slice none 0 0) from rfl)
              have f2 := (cell_of_row w9 _ 2 _ _ _ hrow).trans (show _ = some (Value.slice none 0 0) from rfl)
              have f4 := frozen_of_row w9 _ 0 _ _ hrow
              have f5 := frozen_of_row w9 _ 1 _ _ hrow
              have f6 := frozen_of_row w9 _ 2 _ _ hrow
              have hsame : Hid (((w9.setCell ⟨w.heap.size + 2, 0, none⟩ (.int .i64 0)).setCell ⟨w.heap.size + 2, 1, none⟩ (.slice none 0 0)).setCell ⟨w.heap.size + 2, 2, none⟩ (.slice none 0 0) = w9) := Lib.hid (by
                rw [setCell_same (k := 0) (v := (.int .i64 0)) hrow rfl, setCell_same (k := 1) (v := (.slice none 0 0)) hrow rfl, setCell_same (k := 2) (v := (.slice none 0 0)) hrow rfl])
              clear hrow
              go_wp2
              rw [hsame.out]
              refine bodyPost_ret (v := .tuple #[.agg #[.int .i64 0, .slice none 0 0, .slice none 0 0], .int .i64 3]) (by simp [results, Try.results68, go_sem, *]; done) rfl ?_
              rw [HRES.out]
              exact RetNd.no (HALL.out _ HB9.out)
          | true =>
            have hspx : sp = (lenF y e : Int) - lenF y f := HSPX.out.trans (if_pos rfl)
            obtain ⟨hf, he⟩ := HLT.out rfl
            have hf1 : f < n1 := hf
            have he1 : e < n1 := he
            obtain ⟨b1, o1, Af, nf, cf, rfl, _, hbl1, hk2, qf, _⟩ := H1.out.sl_at hf1
            obtain ⟨b', o', Ae, ne, ce, e', _, _, hk3, qe, _⟩ := H1.out.sl_at he1
            injection e' with e'; injection e' with e1 e2; subst e1 e2
            have hnf : lenF y f = nf := hk2.len
            have hne : lenF y e = ne := hk3.len
            have hf64 : nf ≤ 64 := by rw [← hnf]; exact pigeon (HY.out.free _ (getD_mem (d := []) (by have := HL1.out; omega)))
            have he64 : ne ≤ 64 := by rw [← hne]; exact pigeon (HY.out.free _ (getD_mem (d := []) (by have := HL1.out; omega)))
            rw [hnf, hne] at hspx
            clear hk2 hnf hne hf he HSPX HLT
            by_cases hs2 : sp < 2
            · have HR3 : Hid (R = (noNeed, 3)) := Lib.hid (by
                have h2 := HSH.out
                rw [if_neg (by omega)] at h2
                rw [HGD.out, h2]; rfl)
              have CEL := Lib.hid (fun w6 (hb : Below w4.heap.size w4 w6) => And.intro (ROW.out w6 (HB4.out.trans (hb.mono HB4.out.size))).1.2 (And.intro (((HB4.out.trans (hb.mono HB4.out.size)).cell (p := ⟨b1, o1 + f, none⟩) hbl1).trans qf) (((HB4.out.trans (hb.mono HB4.out.size)).cell (p := ⟨b1, o1 + e, none⟩) hbl1).trans qe)))
              clear qf qe hk3
              have hsm : (ne : Int) - nf < 2 := by omega
              clear hspx hs2
              go_wp2_with fail
              refine region_free (by kernel_rfl) (by kernel_rfl) 112 rfl [59, 60, 61, 62, 63, 64, 65, 66, 67, 68, 69, 70, 71, 72, 73, 74, 75, 76] [] []
                [(59, [], fun _ => .bool true), (60, [], fun _ => .bool false), (61, [], fun _ => .bool false), (62, [], fun _ => (.pointer (some ⟨w.heap.size + 1, 1, none⟩))), (63, [], fun _ => (.slice (some ⟨b1, o1, none⟩) n1 c1)), (64, [], fun _ => .int .i64 (e : Int)), (65, [], fun _ => .pointer (some ⟨b1, o1 + e, none⟩)), (66, [], fun _ => .slice Ae ne ce), (67, [], fun _ => .int .i64 (ne : Int)), (68, [], fun _ => (.pointer (some ⟨w.heap.size + 1, 1, none⟩))), (69, [], fun _ => (.slice (some ⟨b1, o1, none⟩) n1 c1)), (70, [], fun _ => .int .i64 (f : Int)), (71, [], fun _ => .pointer (some ⟨b1, o1 + f, none⟩)), (72, [], fun _ => .slice Af nf cf), (73, [], fun _ => .int .i64 (nf : Int)), (74, [], fun _ => .int .i64 ((ne : Int) - nf)), (75, [], fun _ => .bool true), (76, [], fun _ => .bool true)]
                [] [] [[], [59], [60], [61], [62, 61], [61], [63, 64, 61], [65, 61], [66, 61], [61], [68, 61], [61], [69, 70, 61], [71, 61], [72, 61], [67, 73, 61], [74, 61], [61, 75]]
                (WdB w4 (fun _ _ _ => True)) (by kernel_rfl) .init ⟨?_, ?_, ?_, ?_, ?_, ?_, ?_, ?_, ?_, ?_, ?_, ?_, ?_, ?_, ?_, ?_, ?_, ?_, trivial⟩ ?_
              · (refine OpH.rd rfl rfl (fun ρ us w6 ho ht hc hl hsrc hW => ?_); have e12 := (ho 12 rfl).trans (show _ = (.bool true : Value) from rfl); clear ht ho; simp only [execOp, e12]; go_simp; try rfl)
              · (refine OpH.rd rfl rfl (fun ρ us w6 ho ht hc hl hsrc hW => ?_); have e59 := (ht 59 (by decide)).trans (show _ = (.bool true : Value) from rfl); clear ht ho; simp only [execOp, e59]; go_simp; try rfl)
              · (refine OpH.rd rfl rfl (fun ρ us w6 ho ht hc hl hsrc hW => ?_); have e60 := (ht 60 (by decide)).trans (show _ = (.bool false : Value) from rfl); clear ht ho; simp only [execOp, e60]; go_simp; try rfl)
              · (refine OpH.rdg rfl 2 61 false rfl rfl (by decide) (fun _ _ _ => rfl) (fun ρ us w6 ho ht hc hl hsrc hW => ?_); have e5 := (ho 5 rfl).trans (show _ = ((.pointer (some ⟨w.heap.size + 1, 0, none⟩)) : Value) from rfl); clear ht ho; simp only [execOp, e5]; go_simp; try rfl)
              · (refine OpH.rdg rfl 2 61 false rfl rfl (by decide) (fun _ _ _ => rfl) (fun ρ us w6 ho ht hc hl hsrc hW => ?_); have e62 := (ht 62 (by decide)).trans (show _ = ((.pointer (some ⟨w.heap.size + 1, 1, none⟩)) : Value) from rfl); obtain ⟨y1, yf, ye⟩ := CEL.out w6 hW.1; clear ht ho; simp only [execOp, e62]; go_simp; try rfl)
              · (refine OpH.rdg rfl 2 61 false rfl rfl (by decide) (fun _ _ _ => rfl) (fun ρ us w6 ho ht hc hl hsrc hW => ?_); have e11 := (ho 11 rfl).trans (show _ = (.int .i64 (e : Int) : Value) from rfl); clear ht ho; simp only [execOp, e11]; go_simp; try rfl)
              · (refine OpH.rdg rfl 2 61 false rfl rfl (by decide) (fun _ _ _ => rfl) (fun ρ us w6 ho ht hc hl hsrc hW => ?_); have e63 := (ht 63 (by decide)).trans (show _ = ((.slice (some ⟨b1, o1, none⟩) n1 c1) : Value) from rfl); have e64 := (ht 64 (by decide)).trans (show _ = (.int .i64 (e : Int) : Value) from rfl); clear ht ho; simp only [execOp, e63, e64]; go_simp; try rfl)
              · (refine OpH.rdg rfl 2 61 false rfl rfl (by decide) (fun _ _ _ => rfl) (fun ρ us w6 ho ht hc hl hsrc hW => ?_); have e65 := (ht 65 (by decide)).trans (show _ = (.pointer (some ⟨b1, o1 + e, none⟩) : Value) from rfl); obtain ⟨y1, yf, ye⟩ := CEL.out w6 hW.1; clear ht ho; simp only [execOp, e65]; go_simp; try rfl)
              · (refine OpH.rdg rfl 2 61 false rfl rfl (by decide) (fun _ _ _ => rfl) (fun ρ us w6 ho ht hc hl hsrc hW => ?_); have e66 := (ht 66 (by decide)).trans (show _ = (.slice Ae ne ce : Value) from rfl); clear ht ho; simp only [execOp]; go_simp; try rfl)
              · (refine OpH.rdg rfl 2 61 false rfl rfl (by decide) (fun _ _ _ => rfl) (fun ρ us w6 ho ht hc hl hsrc hW => ?_); have e5 := (ho 5 rfl).trans (show _ = ((.pointer (some ⟨w.heap.size + 1, 0, none⟩)) : Value) from rfl); clear ht ho; simp only [execOp, e5]; go_simp; try rfl)
              · (refine OpH.rdg rfl 2 61 false rfl rfl (by decide) (fun _ _ _ => rfl) (fun ρ us w6 ho ht hc hl hsrc hW => ?_); have e68 := (ht 68 (by decide)).trans (show _ = ((.pointer (some ⟨w.heap.size + 1, 1, none⟩)) : Value) from rfl); obtain ⟨y1, yf, ye⟩ := CEL.out w6 hW.1; clear ht ho; simp only [execOp, e68]; go_simp; try rfl)
              · (refine OpH.rdg rfl 2 61 false rfl rfl (by decide) (fun _ _ _ => rfl) (fun ρ us w6 ho ht hc hl hsrc hW => ?_); have e10 := (ho 10 rfl).trans (show _ = (.int .i64 (f : Int) : Value) from rfl); clear ht ho; simp only [execOp, e10]; go_simp; try rfl)
              · (refine OpH.rdg rfl 2 61 false rfl rfl (by decide) (fun _ _ _ => rfl) (fun ρ us w6 ho ht hc hl hsrc hW => ?_); have e69 := (ht 69 (by decide)).trans (show _ = ((.slice (some ⟨b1, o1, none⟩) n1 c1) : Value) from rfl); have e70 := (ht 70 (by decide)).trans (show _ = (.int .i64 (f : Int) : Value) from rfl); clear ht ho; simp only [execOp, e69, e70]; go_simp; try rfl)
              · (refine OpH.rdg rfl 2 61 false rfl rfl (by decide) (fun _ _ _ => rfl) (fun ρ us w6 ho ht hc hl hsrc hW => ?_); have e71 := (ht 71 (by decide)).trans (show _ = (.pointer (some ⟨b1, o1 + f, none⟩) : Value) from rfl); obtain ⟨y1, yf, ye⟩ := CEL.out w6 hW.1; clear ht ho; simp only [execOp, e71]; go_simp; try rfl)
              · (refine OpH.rdg rfl 2 61 false rfl rfl (by decide) (fun _ _ _ => rfl) (fun ρ us w6 ho ht hc hl hsrc hW => ?_); have e72 := (ht 72 (by decide)).trans (show _ = (.slice Af nf cf : Value) from rfl); clear ht ho; simp only [execOp]; go_simp; try rfl)
              · (refine OpH.rdg rfl 2 61 false rfl rfl (by decide) (fun _ _ _ => rfl) (fun ρ us w6 ho ht hc hl hsrc hW => ?_); have e67 := (ht 67 (by decide)).trans (show _ = (.int .i64 (ne : Int) : Value) from rfl); have e73 := (ht 73 (by decide)).trans (show _ = (.int .i64 (nf : Int) : Value) from rfl); clear ht ho; simp only [execOp, e67, e73]; go_simp; exact congrArg (Value.int .i64) (Go.IntWalk.i64_in _ (by omega)))
              · (refine OpH.rdg rfl 2 61 false rfl rfl (by decide) (fun _ _ _ => rfl) (fun ρ us w6 ho ht hc hl hsrc hW => ?_); have e74 := (ht 74 (by decide)).trans (show _ = (.int .i64 ((ne : Int) - nf) : Value) from rfl); clear ht ho; simp only [execOp, e74]; go_simp; first | rfl | exact congrArg Value.bool (decide_eq_true (by omega)) | exact congrArg Value.bool (decide_eq_false (by omega)) | (simp; done) | (simp; omega))
              · (refine OpH.rd rfl rfl (fun ρ us w6 ho ht hc hl hsrc hW => ?_); have e61 := (ht 61 (by decide)).trans (show _ = (.bool false : Value) from rfl); have e75 := (ht 75 (by decide)).trans (show _ = (.bool true : Value) from rfl); clear ht ho; simp only [execOp, e61, e75]; go_simp; try rfl)
              · intro us w9 hmem hW
                simp only [putAll, List.map_cons, List.map_nil, List.foldl_cons, List.foldl_nil, Act.put, List.setIfInBounds_toArray, List.set_cons_succ, List.set_cons_zero]
                generalize hsv : slotAt _ _ us = sv
                have hq : sv 76 = .bool true := by rw [← hsv]; rfl
                rw [hq]
                have HB9 := Lib.hid (HB4.out.trans (hW.1.mono HB4.out.size))
                clear hsv hq hmem hW CEL
                have HRES : Hid (R = (noNeed, 3)) := Lib.hid (HR3.out)
                have hrow := ROW1.out w9 HB9.out
                have f0 := (cell_of_row w9 _ 0 _ _ _ hrow).trans (show _ = some (Value.int .i64 0) from rfl)
                have f1 := (cell_of_row w9 _ 1 _ _ _ hrow).trans (show _ = some (Value.slice none 0 0) from rfl)
                have f2 := (cell_of_row w9 _ 2 _ _ _ hrow).trans (show _ = some (Value.slice none 0 0) from rfl)
                have f4 := frozen_of_row w9 _ 0 _ _ hrow
                have f5 := frozen_of_row w9 _ 1 _ _ hrow
                have f6 := frozen_of_row w9 _ 2 _ _ hrow
                have hsame : Hid (((w9.setCell ⟨w.heap.size + 2, 0, none⟩ (.int .i64 0)).setCell ⟨w.heap.size + 2, 1, none⟩ (.slice none 0 0)).setCell ⟨w.heap.size + 2, 2, none⟩ (.slice none 0 0) = w9) := Lib.hid (by
                  rw [setCell_same (k := 0) (v := (.int .i64 0)) hrow rfl, setCell_same (k := 1) (v := (.slice none 0 0)) hrow rfl, setCell_same (k := 2) (v := (.slice none 0 0)) hrow rfl])
                clear hrow
                go_wp2
                rw [hsame.out]
                refine bodyPost_ret (v := .tuple #[.agg #[.int .i64 0, .slice none 0 0, .slice none 0 0], .int .i64 3]) (by simp [results, Try.results68, go_sem, *]; done) rfl ?_
                rw [HRES.out]
                exact RetNd.no (HALL.out _ HB9.out)
            · have hRR : RR = (if 0 ≤ idxOf (shiftP f e) l then (needOf y f e (l.getD (idxOf (shiftP f e) l).toNat default), true) else (noNeed, false)) := HSH.out.trans (if_pos (by omega))
              have HRR := Lib.hid hRR; clear hRR HSH
              have hne1 : 0 < ne := by omega
              obtain ⟨be, oe, rfl, _, hble, pI, qp, _⟩ := hk3.int_at hne1
              rw [Nat.add_zero] at qp
              have HPS := Lib.hid (show needOf y f e = fun x => ⟨x.id, [onX x.place f], [⟨e, (y.free.getD e []).getD 0 0⟩]⟩ from rfl)
              generalize (y.free.getD e []).getD 0 0 = ps at *
              have CEL := Lib.hid (fun w6 (hb : Below w4.heap.size w4 w6) => And.intro (ROW.out w6 (HB4.out.trans (hb.mono HB4.out.size))).1.2 (And.intro (((HB4.out.trans (hb.mono HB4.out.size)).cell (p := ⟨b1, o1 + f, none⟩) hbl1).trans qf) (((HB4.out.trans (hb.mono HB4.out.size)).cell (p := ⟨b1, o1 + e, none⟩) hbl1).trans qe)))
              clear qf hk3
              have hsm : ¬ (ne : Int) - nf < 2 := by omega
              clear hspx hs2
              go_wp2_with fail
              refine region_free (by kernel_rfl) (by kernel_rfl) 112 rfl [59, 60, 61, 62, 63, 64, 65, 66, 67, 68, 69, 70, 71, 72, 73, 74, 75, 76] [] []
                [(59, [], fun _ => .bool true), (60, [], fun _ => .bool false), (61, [], fun _ => .bool false), (62, [], fun _ => (.pointer (some ⟨w.heap.size + 1, 1, none⟩))), (63, [], fun _ => (.slice (some ⟨b1, o1, none⟩) n1 c1)), (64, [], fun _ => .int .i64 (e : Int)), (65, [], fun _ => .pointer (some ⟨b1, o1 + e, none⟩)), (66, [], fun _ => .slice (some ⟨be, oe, none⟩) ne ce), (67, [], fun _ => .int .i64 (ne : Int)), (68, [], fun _ => (.pointer (some ⟨w.heap.size + 1, 1, none⟩))), (69, [], fun _ => (.slice (some ⟨b1, o1, none⟩) n1 c1)), (70, [], fun _ => .int .i64 (f : Int)), (71, [], fun _ => .pointer (some ⟨b1, o1 + f, none⟩)), (72, [], fun _ => .slice Af nf cf), (73, [], fun _ => .int .i64 (nf : Int)), (74, [], fun _ => .int .i64 ((ne : Int) - nf)), (75, [], fun _ => .bool false), (76, [], fun _ => .bool false)]
                [] [] [[], [59], [60], [61], [62, 61], [61], [63, 64, 61], [65, 61], [66, 61], [61], [68, 61], [61], [69, 70, 61], [71, 61], [72, 61], [67, 73, 61], [74, 61], [61, 75]]
                (WdB w4 (fun _ _ _ => True)) (by kernel_rfl) .init ⟨?_, ?_, ?_, ?_, ?_, ?_, ?_, ?_, ?_, ?_, ?_, ?_, ?_, ?_, ?_, ?_, ?_, ?_, trivial⟩ ?_
              · (refine OpH.rd rfl rfl (fun ρ us w6 ho ht hc hl hsrc hW => ?_); have e12 := (ho 12 rfl).trans (show _ = (.bool true : Value) from rfl); clear ht ho; simp only [execOp, e12]; go_simp; try rfl)
              · (refine OpH.rd rfl rfl (fun ρ us w6 ho ht hc hl hsrc hW => ?_); have e59 := (ht 59 (by decide)).trans (show _ = (.bool true : Value) from rfl); clear ht ho; simp only [execOp, e59]; go_simp; try rfl)
              · (refine OpH.rd rfl rfl (fun ρ us w6 ho ht hc hl hsrc hW => ?_); have e60 := (ht 60 (by decide)).trans (show _ = (.bool false : Value) from rfl); clear ht ho; simp only [execOp, e60]; go_simp; try rfl)
              · (refine OpH.rdg rfl 2 61 false rfl rfl (by decide) (fun _ _ _ => rfl) (fun ρ us w6 ho ht hc hl hsrc hW => ?_); have e5 := (ho 5 rfl).trans (show _ = ((.pointer (some ⟨w.heap.size + 1, 0, none⟩)) : Value) from rfl); clear ht ho; simp only [execOp, e5]; go_simp; try rfl)
              · (refine OpH.rdg rfl 2 61 false rfl rfl (by decide) (fun _ _ _ => rfl) (fun ρ us w6 ho ht hc hl hsrc hW => ?_); have e62 := (ht 62 (by decide)).trans (show _ = ((.pointer (some ⟨w.heap.size + 1, 1, none⟩)) : Value) from rfl); obtain ⟨y1, yf, ye⟩ := CEL.out w6 hW.1; clear ht ho; simp only [execOp, e62]; go_simp; try rfl)
              · (refine OpH.rdg rfl 2 61 false rfl rfl (by decide) (fun _ _ _ => rfl) (fun ρ us w6 ho ht hc hl hsrc hW => ?_); have e11 := (ho 11 rfl).trans (show _ = (.int .i64 (e : Int) : Value) from rfl); clear ht ho; simp only [execOp, e11]; go_simp; try rfl)
              · (refine OpH.rdg rfl 2 61 false rfl rfl (by decide) (fun _ _ _ => rfl) (fun ρ us w6 ho ht hc hl hsrc hW => ?_); have e63 := (ht 63 (by decide)).trans (show _ = ((.slice (some ⟨b1, o1, none⟩) n1 c1) : Value) from rfl); have e64 := (ht 64 (by decide)).trans (show _ = (.int .i64 (e : Int) : Value) from rfl); clear ht ho; simp only [execOp, e63, e64]; go_simp; try rfl)
              · (refine OpH.rdg rfl 2 61 false rfl rfl (by decide) (fun _ _ _ => rfl) (fun ρ us w6 ho ht hc hl hsrc hW => ?_); have e65 := (ht 65 (by decide)).trans (show _ = (.pointer (some ⟨b1, o1 + e, none⟩) : Value) from rfl); obtain ⟨y1, yf, ye⟩ := CEL.out w6 hW.1; clear ht ho; simp only [execOp, e65]; go_simp; try rfl)
              · (refine OpH.rdg rfl 2 61 false rfl rfl (by decide) (fun _ _ _ => rfl) (fun ρ us w6 ho ht hc hl hsrc hW => ?_); have e66 := (ht 66 (by decide)).trans (show _ = (.slice (some ⟨be, oe, none⟩) ne ce : Value) from rfl); clear ht ho; simp only [execOp]; go_simp; try rfl)
              · (refine OpH.rdg rfl 2 61 false rfl rfl (by decide) (fun _ _ _ => rfl) (fun ρ us w6 ho ht hc hl hsrc hW => ?_); have e5 := (ho 5 rfl).trans (show _ = ((.pointer (some ⟨w.heap.size + 1, 0, none⟩)) : Value) from rfl); clear ht ho; simp only [execOp, e5]; go_simp; try rfl)
              · (refine OpH.rdg rfl 2 61 false rfl rfl (by decide) (fun _ _ _ => rfl) (fun ρ us w6 ho ht hc hl hsrc hW => ?_); have e68 := (ht 68 (by decide)).trans (show _ = ((.pointer (some ⟨w.heap.size + 1, 1, none⟩)) : Value) from rfl); obtain ⟨y1, yf, ye⟩ := CEL.out w6 hW.1; clear ht ho; simp only [execOp, e68]; go_simp; try rfl)
              · (refine OpH.rdg rfl 2 61 false rfl rfl (by decide) (fun _ _ _ => rfl) (fun ρ us w6 ho ht hc hl hsrc hW => ?_); have e10 := (ho 10 rfl).trans (show _ = (.int .i64 (f : Int) : Value) from rfl); clear ht ho; simp only [execOp, e10]; go_simp; try rfl)
              · (refine OpH.rdg rfl 2 61 false rfl rfl (by decide) (fun _ _ _ => rfl) (fun ρ us w6 ho ht hc hl hsrc hW => ?_); have e69 := (ht 69 (by decide)).trans (show _ = ((.slice (some ⟨b1, o1, none⟩) n1 c1) : Value) from rfl); have e70 := (ht 70 (by decide)).trans (show _ = (.int .i64 (f : Int) : Value) from rfl); clear ht ho; simp only [execOp, e69, e70]; go_simp; try rfl)
              · (refine OpH.rdg rfl 2 61 false rfl rfl (by decide) (fun _ _ _ => rfl) (fun ρ us w6 ho ht hc hl hsrc hW => ?_); have e71 := (ht 71 (by decide)).trans (show _ = (.pointer (some ⟨b1, o1 + f, none⟩) : Value) from rfl); obtain ⟨y1, yf, ye⟩ := CEL.out w6 hW.1; clear ht ho; simp only [execOp, e71]; go_simp; try rfl)
              · (refine OpH.rdg rfl 2 61 false rfl rfl (by decide) (fun _ _ _ => rfl) (fun ρ us w6 ho ht hc hl hsrc hW => ?_); have e72 := (ht 72 (by decide)).trans (show _ = (.slice Af nf cf : Value) from rfl); clear ht ho; simp only [execOp]; go_simp; try rfl)
              · (refine OpH.rdg rfl 2 61 false rfl rfl (by decide) (fun _ _ _ => rfl) (fun ρ us w6 ho ht hc hl hsrc hW => ?_); have e67 := (ht 67 (by decide)).trans (show _ = (.int .i64 (ne : Int) : Value) from rfl); have e73 := (ht 73 (by decide)).trans (show _ = (.int .i64 (nf : Int) : Value) from rfl); clear ht ho; simp only [execOp, e67, e73]; go_simp; exact congrArg (Value.int .i64) (Go.IntWalk.i64_in _ (by omega)))
              · (refine OpH.rdg rfl 2 61 false rfl rfl (by decide) (fun _ _ _ => rfl) (fun ρ us w6 ho ht hc hl hsrc hW => ?_); have e74 := (ht 74 (by decide)).trans (show _ = (.int .i64 ((ne : Int) - nf) : Value) from rfl); clear ht ho; simp only [execOp, e74]; go_simp; first | rfl | exact congrArg Value.bool (decide_eq_true (by omega)) | exact congrArg Value.bool (decide_eq_false (by omega)) | (simp; done) | (simp; omega))
              · (refine OpH.rd rfl rfl (fun ρ us w6 ho ht hc hl hsrc hW => ?_); have e61 := (ht 61 (by decide)).trans (show _ = (.bool false : Value) from rfl); have e75 := (ht 75 (by decide)).trans (show _ = (.bool false : Value) from rfl); clear ht ho; simp only [execOp, e61, e75]; go_simp; try rfl)
              · intro us w9 hmem hW
                simp only [putAll, List.map_cons, List.map_nil, List.foldl_cons, List.foldl_nil, Act.put, List.setIfInBounds_toArray, List.set_cons_succ, List.set_cons_zero]
                generalize hsv : slotAt _ _ us = sv
                have hq : sv 76 = .bool false := by rw [← hsv]; rfl
                rw [hq]
                have HB9 := Lib.hid (HB4.out.trans (hW.1.mono HB4.out.size))
                clear hsv hq hmem hW CEL
                clear hsm
                go_wp2_with fail
                go_loopw [80] (fun i wr => ∃ k : Nat, k ≤ n ∧ i = .int .i64 k ∧ Hid (Below W0.heap.size W0 wr) ∧ Hid (∀ j, j < k → shiftP f e (l.getD j default) = false)) (fun i _ => n - (intOf i).toNat)
                case atStart => exact ⟨0, Nat.zero_le _, rfl, HB9, Lib.hid (fun j hj => by omega)⟩
                case round =>
                  clear HB9 HB4
                  obtain ⟨k, hk, rfl, HB, hno⟩ := hrel
                  by_cases hlt : k < n
                  · obtain ⟨b, o, A3, n3, c3, rfl, _, hbl, i1, i2, i3, hpl, z0, z1, z2, z3, _⟩ := H.out.stripe_at hlt
                    have hlx : n3 ≤ 100000 := by have := hpl.len; have := HX.out _ (getD_mem (d := default) (show k < l.length by have := HL.out; omega)); omega
                    have HFOUND := Lib.hid (fun hf : shiftP f e (l.getD k default) = true => (show R = (needOf y f e (l.getD k default), 0) from by
                      have h1 := idxOf_some (d := default) (show k < l.length by have := HL.out; omega) hf hno.out
                      have h2 := HRR.out
                      rw [h1, if_pos (by omega), Int.toNat_natCast] at h2
                      rw [HGD.out, h2]; rfl))
                    have HNEXT := Lib.hid (fun (hf : shiftP f e (l.getD k default) = false) j (hj : j < k + 1) => (show shiftP f e (l.getD j default) = false from by
                      rcases Nat.lt_or_ge j k with hjk | hjk
                      · exact hno.out j hjk
                      · obtain rfl : j = k := by omega
                        exact hf))
                    have hsp : shiftP f e (l.getD k default) = (decide (0 ≤ onX (l.getD k default).place f) && decide (onX (l.getD k default).place e < 0)) := rfl
                    generalize l.getD k default = x at *
                    have HQI := Lib.hid (onX_I64 (l := x.place) (d := (f : Int)) (by have := hpl.len; omega))
                    have HSPX := Lib.hid hsp; clear hsp
                    have zz0 := (HB.out.cell (p := ⟨b, o + k * 4, none⟩) hbl).trans z0
                    have zz1 := (HB.out.cell (p := ⟨b, o + k * 4 + 1, none⟩) hbl).trans z1
                    have zz2 := (HB.out.cell (p := ⟨b, o + k * 4 + 2, none⟩) hbl).trans z2
                    have zz3 := (HB.out.cell (p := ⟨b, o + k * 4 + 3, none⟩) hbl).trans z3
                    go_upto_region 15 with (fail)
                    have hbrow := heap_alloc_new wr (.cells #[.int .i64 x.id, .int .i64 x.len, .int .i64 x.gen, .slice A3 n3 c3] 79)
                    have hbal : Below wr.heap.size wr (wr.alloc (.cells #[.int .i64 x.id, .int .i64 x.len, .int .i64 x.gen, .slice A3 n3 c3] 79)) := (Below.refl _ _).alloc (Nat.le_refl _) _
                    have hblt : wr.heap.size < (wr.alloc (.cells #[.int .i64 x.id, .int .i64 x.len, .int .i64 x.gen, .slice A3 n3 c3] 79)).heap.size := by simp
                    have HBb := Lib.hid (HB.out.trans (hbal.mono HB.out.size))
                    clear zz0 zz1 zz2 zz3 z0 z1 z2 z3 hbal i1 i2 i3
                    generalize (wr.alloc (.cells #[.int .i64 x.id, .int .i64 x.len, .int .i64 x.gen, .slice A3 n3 c3] 79)) = wb at *
                    generalize wr.heap.size = gb at *
                    have XC := Lib.hid (fun V (hV : Below wb.heap.size wb V) => And.intro (cell_of_row _ _ 0 _ _ _ ((hV.block _ hblt).trans hbrow)) (And.intro (cell_of_row _ _ 1 _ _ _ ((hV.block _ hblt).trans hbrow)) (And.intro (cell_of_row _ _ 2 _ _ _ ((hV.block _ hblt).trans hbrow)) (cell_of_row _ _ 3 _ _ _ ((hV.block _ hblt).trans hbrow)))))
                    have HON := Lib.hid (fun V (hV : Below wb.heap.size wb V) (d : Int) => placeOn_c (w := V) (x := x) (d := d) (hpl.all (HBb.out.trans (hV.mono HBb.out.size))))
                    clear hpl hbrow hblt HB
                    obtain ⟨z0, z1, z2, z3⟩ := XC.out wb (Below.refl _ _)
                    have HQ1 := Lib.hid (HON.out wb (Below.refl _ _) (f : Int))
                    go_wp2_with fail
                    refine HQ1.out.mono ?_
                    clear HQ1 z0 z1 z2 z3
                    rintro r w5 ⟨rfl, hb5⟩
                    have HB5 := Lib.hid hb5; clear hb5
                    generalize hqq : onX x.place f = q at *
                    by_cases hq0 : 0 ≤ q
                    · obtain ⟨z0, z1, z2, z3⟩ := XC.out w5 HB5.out
                      have HQ1 := Lib.hid (HON.out w5 HB5.out (e : Int))
                      have HQQ := Lib.hid hqq; clear hqq
                      go_wp2_with fail
                      refine HQ1.out.mono ?_
                      clear HQ1 z0 z1 z2 z3
                      rintro r wr ⟨rfl, hb6⟩
                      have HB6 := Lib.hid (HB5.out.trans (hb6.mono HB5.out.size)); clear hb6 HB5
                      have HB := Lib.hid (HBb.out.trans (HB6.out.mono HBb.out.size))
                      generalize hqe : onX x.place e = qe2 at *
                      by_cases hq1 : qe2 < 0
                      · have HRES : Hid (R = (needOf y f e x, 0)) := Lib.hid (HFOUND.out (by rw [HSPX.out, decide_eq_true hq0, decide_eq_true hq1]; rfl))
                        have HQ : Hid (I64 q ∧ I64 (Slot.mk e ps).disk ∧ I64 (Slot.mk e ps).pos) := Lib.hid ⟨HQI.out, by show I64 (e : Int); unfold I64; omega, pI⟩
                        have BOXR := Lib.hid (fun V (hV : Below wr.heap.size wr V) => ROW1.out V (HB.out.trans (hV.mono HB.out.size)))
                        have HBW : Hid (w.heap.size + 2 < wr.heap.size) := Lib.hid (by have := HB.out.size; have := HBW0.out; omega)
                        have hne2 : needOf y f e x = ⟨x.id, [q], [⟨e, ps⟩]⟩ := by rw [HPS.out]; show Need.mk _ [onX x.place f] _ = _; rw [HQQ.out]
                        have HNE := Lib.hid hne2; clear hne2 hqe
                        have CEL := Lib.hid (fun w6 (hb : Below wr.heap.size wr w6) => And.intro (ROW.out w6 (HB.out.trans (hb.mono HB.out.size))).1.2 (And.intro (((HB.out.trans (hb.mono HB.out.size)).cell (p := ⟨b1, o1 + e, none⟩) hbl1).trans qe) (And.intro (((HB.out.trans (hb.mono HB.out.size)).cell (p := ⟨be, oe, none⟩) hble).trans qp) (XC.out w6 (HB6.out.trans (hb.mono HB6.out.size))).1)))
                        go_wp2_with fail
                        refine region_free (by kernel_rfl) (by kernel_rfl) 112 rfl [95, 96, 97, 98, 99, 100, 101, 102, 103, 104, 105, 106, 107, 108, 109, 7] [3, 13, 15] [(98, 3), (108, 13)]
                          [(95, [], fun _ => (.pointer (some ⟨gb, 0, none⟩))), (96, [], fun _ => .int .i64 x.id), (97, [], fun _ => .int .i64 q), (99, [], fun _ => .int .i64 (e : Int)), (100, [], fun _ => (.pointer (some ⟨w.heap.size + 1, 1, none⟩))), (101, [], fun _ => (.slice (some ⟨b1, o1, none⟩) n1 c1)), (102, [], fun _ => .int .i64 (e : Int)), (103, [], fun _ => .pointer (some ⟨b1, o1 + e, none⟩)), (104, [], fun _ => .slice (some ⟨be, oe, none⟩) ne ce), (105, [], fun _ => .pointer (some ⟨be, oe, none⟩)), (106, [], fun _ => .int .i64 ps), (107, [], fun _ => .agg #[.int .i64 (e : Int), .int .i64 ps]), (109, [3, 13], fun l => .agg #[.int .i64 x.id, l.getD 0 undef, l.getD 1 undef]), (7, [], fun _ => .int .i64 0)]
                          [[15], [15], [15], [15], [15], [15], [15], [15], [15], [15], [15], [15], [15], [15], [15]] [[], [], [], [], [], [], [], [], [], [], [], [], [], [], [], [3, 13]] [[], [95], [], [97], [], [], [100], [], [101, 102], [103], [104], [105], [99, 106], [107], [96, 98, 108], [109], []]
                          (WdS wr (RSp q e ps wr) 15 (stN (w.heap.size + 2) x.id 3 13)) (by kernel_rfl) .init ⟨?_, ?_, ?_, ?_, ?_, ?_, ?_, ?_, ?_, ?_, ?_, ?_, ?_, ?_, ?_, ?_, ?_, trivial⟩ ?_
                        -- FAST17 cdot
                        · (refine OpH.rd rfl rfl (fun ρ us w6 ho ht hc hl hsrc hW => ?_); have e14 := (ho 14 rfl).trans (show _ = ((.pointer (some ⟨gb, 0, none⟩)) : Value) from rfl); clear ht ho; simp only [execOp, e14]; go_simp; try rfl)
                        · (refine OpH.rd rfl rfl (fun ρ us w6 ho ht hc hl hsrc hW => ?_); have e95 := (ht 95 (by decide)).trans (show _ = ((.pointer (some ⟨gb, 0, none⟩)) : Value) from rfl); have hb6 := (hW.early (hl 15 (by decide))).1; obtain ⟨y1, ye, yp, yi⟩ := CEL.out w6 hb6; clear hb6; clear ht ho; simp only [execOp, e95]; go_simp; try rfl)
                        · (refine OpH.rd rfl rfl (fun ρ us w6 ho ht hc hl hsrc hW => ?_); have e15 := (ho 15 rfl).trans (show _ = (.int .i64 q : Value) from rfl); clear ht ho; simp only [execOp, e15]; go_simp; try rfl)
                        · refine OpH.wr rfl (fun Z us w6 ho ht hni hlim hreq hW K hK => ?_)
                          have e97 := (ht 97 (by decide)).trans (show _ = (.int .i64 q : Value) from rfl)
                          have hn := hlim 15 (by decide)
                          have hdone := hW.snoc (i := 3) (x := .slice (some ⟨w6.heap.size, 0, none⟩) 1 1) (by decide) hn ((Below.refl _ _).alloc (Nat.le_refl _) (.cells #[.int .i64 q] 3)) (fun j v h => RSp.all ((Below.refl _ _).alloc (Nat.le_refl _) _) j v h) ⟨fun _ => ⟨_, rfl, (hW.early hn).1.size, heap_alloc_new _ _⟩, fun h => absurd h (by decide)⟩
                          have HDN := Lib.hid hdone; clear hdone hW hni hlim hreq ho ht hn
                          rw [if_pos (by simp [Region.wanted])]
                          unfold Oper.wp
                          generalize Z.eval = ρ at *
                          simp only [execOp, List.map_toArray, List.map_cons, List.map_nil, e97]
                          go_simp
                          exact hK _ _ HDN.out
                        · (refine OpH.rd rfl rfl (fun ρ us w6 ho ht hc hl hsrc hW => ?_); have e11 := (ho 11 rfl).trans (show _ = (.int .i64 (e : Int) : Value) from rfl); clear ht ho; simp only [execOp, e11]; go_simp; try rfl)
                        · (refine OpH.rd rfl rfl (fun ρ us w6 ho ht hc hl hsrc hW => ?_); have e5 := (ho 5 rfl).trans (show _ = ((.pointer (some ⟨w.heap.size + 1, 0, none⟩)) : Value) from rfl); clear ht ho; simp only [execOp, e5]; go_simp; try rfl)
                        · (refine OpH.rd rfl rfl (fun ρ us w6 ho ht hc hl hsrc hW => ?_); have e100 := (ht 100 (by decide)).trans (show _ = ((.pointer (some ⟨w.heap.size + 1, 1, none⟩)) : Value) from rfl); have hb6 := (hW.early (hl 15 (by decide))).1; obtain ⟨y1, ye, yp, yi⟩ := CEL.out w6 hb6; clear hb6; clear ht ho; simp only [execOp, e100]; go_simp; try rfl)
                        · (refine OpH.rd rfl rfl (fun ρ us w6 ho ht hc hl hsrc hW => ?_); have e11 := (ho 11 rfl).trans (show _ = (.int .i64 (e : Int) : Value) from rfl); clear ht ho; simp only [execOp, e11]; go_simp; try rfl)
                        · (refine OpH.rd rfl rfl (fun ρ us w6 ho ht hc hl hsrc hW => ?_); have e101 := (ht 101 (by decide)).trans (show _ = ((.slice (some ⟨b1, o1, none⟩) n1 c1) : Value) from rfl); have e102 := (ht 102 (by decide)).trans (show _ = (.int .i64 (e : Int) : Value) from rfl); clear ht ho; simp only [execOp, e101, e102]; go_simp; try rfl)
                        · (refine OpH.rd rfl rfl (fun ρ us w6 ho ht hc hl hsrc hW => ?_); have e103 := (ht 103 (by decide)).trans (show _ = (.pointer (some ⟨b1, o1 + e, none⟩) : Value) from rfl); have hb6 := (hW.early (hl 15 (by decide))).1; obtain ⟨y1, ye, yp, yi⟩ := CEL.out w6 hb6; clear hb6; clear ht ho; simp only [execOp, e103]; go_simp; try rfl)
                        · (refine OpH.rd rfl rfl (fun ρ us w6 ho ht hc hl hsrc hW => ?_); have e104 := (ht 104 (by decide)).trans (show _ = (.slice (some ⟨be, oe, none⟩) ne ce : Value) from rfl); clear ht ho; simp only [execOp, e104]; go_simp; try rfl)
                        · (refine OpH.rd rfl rfl (fun ρ us w6 ho ht hc hl hsrc hW => ?_); have e105 := (ht 105 (by decide)).trans (show _ = (.pointer (some ⟨be, oe, none⟩) : Value) from rfl); have hb6 := (hW.early (hl 15 (by decide))).1; obtain ⟨y1, ye, yp, yi⟩ := CEL.out w6 hb6; clear hb6; clear ht ho; simp only [execOp, e105]; go_simp; try rfl)
                        · (refine OpH.rd rfl rfl (fun ρ us w6 ho ht hc hl hsrc hW => ?_); have e99 := (ht 99 (by decide)).trans (show _ = (.int .i64 (e : Int) : Value) from rfl); have e106 := (ht 106 (by decide)).trans (show _ = (.int .i64 ps : Value) from rfl); clear ht ho; simp only [execOp]; go_simp; try rfl)
                        · refine OpH.wr rfl (fun Z us w6 ho ht hni hlim hreq hW K hK => ?_)
                          have e107 := (ht 107 (by decide)).trans (show _ = (.agg #[.int .i64 (e : Int), .int .i64 ps] : Value) from rfl)
                          have hn := hlim 15 (by decide)
                          have hdone := hW.snoc (i := 13) (x := .slice (some ⟨w6.heap.size, 0, none⟩) 1 1) (by decide) hn ((Below.refl _ _).alloc (Nat.le_refl _) (.cells #[.int .i64 (e : Int), .int .i64 ps] 104)) (fun j v h => RSp.all ((Below.refl _ _).alloc (Nat.le_refl _) _) j v h) ⟨fun h => absurd h (by decide), fun _ => ⟨_, rfl, (hW.early hn).1.size, heap_alloc_new _ _⟩⟩
                          have HDN := Lib.hid hdone; clear hdone hW hni hlim hreq ho ht hn
                          rw [if_pos (by simp [Region.wanted])]
                          unfold Oper.wp
                          generalize Z.eval = ρ at *
                          simp only [execOp, List.map_toArray, List.map_cons, List.map_nil, e107]
                          go_simp
                          exact hK _ _ HDN.out
                        · refine OpH.rd rfl rfl (fun ρ us w6 ho ht hc hl hsrc hW => ?_)
                          have hE := hW.early (hl 15 (by decide))
                          obtain ⟨v6, l6, m6⟩ := lookup_mem (hsrc 3 (by exact (by decide : (3 : Nat) ∈ [3, 13])))
                          obtain ⟨v16, l16, m16⟩ := lookup_mem (hsrc 13 (by exact (by decide : (13 : Nat) ∈ [3, 13])))
                          obtain ⟨g6, rfl, _, _⟩ := (hE.2 3 v6 m6).1 rfl
                          obtain ⟨g16, rfl, _, _⟩ := (hE.2 13 v16 m16).2 rfl
                          have e96 := (ht 96 (by decide)).trans (show _ = (.int .i64 x.id : Value) from rfl)
                          have e98 := ((ht 98 (by decide)).trans (show _ = (us.lookup 3).getD undef from rfl)).trans (show _ = (.slice (some ⟨g6, 0, none⟩) 1 1 : Value) by rw [l6]; rfl)
                          have e108 := ((ht 108 (by decide)).trans (show _ = (us.lookup 13).getD undef from rfl)).trans (show _ = (.slice (some ⟨g16, 0, none⟩) 1 1 : Value) by rw [l16]; rfl)
                          change _ = Result.ok (Next.value (.agg #[.int .i64 x.id, (us.lookup 3).getD undef, (us.lookup 13).getD undef])) w6
                          rw [l6, l16]
                          clear ht ho hl hsrc hW hE l6 l16 m6 m16
                          simp only [execOp, List.map_toArray, List.map_cons, List.map_nil, e96, e98, e108]
                          go_simp
                        · refine OpH.wr rfl (fun Z us w6 ho ht hni hlim hreq hW K hK => ?_)
                          have hE := hW.early hni
                          obtain ⟨v6, l6, m6⟩ := lookup_mem (hreq 3 (by decide))
                          obtain ⟨v16, l16, m16⟩ := lookup_mem (hreq 13 (by decide))
                          obtain ⟨g6, rfl, hg6, r6⟩ := (hE.2 3 v6 m6).1 rfl
                          obtain ⟨g16, rfl, hg16, r16⟩ := (hE.2 13 v16 m16).2 rfl
                          have e4 := (ho 6 rfl).trans (show _ = (.pointer (some ⟨w.heap.size + 2, 0, none⟩) : Value) from rfl)
                          have e109 := ((ht 109 (by decide)).trans (show _ = (.agg #[.int .i64 x.id, (us.lookup 3).getD undef, (us.lookup 13).getD undef] : Value) from rfl)).trans (show _ = (.agg #[.int .i64 x.id, .slice (some ⟨g6, 0, none⟩) 1 1, .slice (some ⟨g16, 0, none⟩) 1 1] : Value) by rw [l6, l16]; rfl)
                          have hst : stN (w.heap.size + 2) x.id 3 13 us w6 = setAll (w.heap.size + 2) 0 [.int .i64 x.id, .slice (some ⟨g6, 0, none⟩) 1 1, .slice (some ⟨g16, 0, none⟩) 1 1] w6 := by unfold stN; rw [l6, l16]; rfl
                          have hdone := hW.store hni (x := undef)
                          rw [hst] at hdone
                          have hr := BOXR.out w6 hE.1
                          have f0 := (cell_of_row w6 _ 0 _ _ _ hr).trans (show _ = some (Value.int .i64 0) from rfl)
                          have f1 := (cell_of_row w6 _ 1 _ _ _ hr).trans (show _ = some (Value.slice none 0 0) from rfl)
                          have f2 := (cell_of_row w6 _ 2 _ _ _ hr).trans (show _ = some (Value.slice none 0 0) from rfl)
                          have f4 := frozen_of_row w6 _ 0 _ _ hr
                          have f5 := frozen_of_row w6 _ 1 _ _ hr
                          have f6 := frozen_of_row w6 _ 2 _ _ hr
                          have HDN := Lib.hid hdone; clear hdone hW hni hlim hreq ho ht hst hr l6 l16 m6 m16 r6 r16 hE
                          rw [if_pos (by simp [Region.wanted])]
                          unfold Oper.wp
                          generalize Z.eval = ρ at *
                          simp only [execOp, e4, e109]
                          go_simp
                          exact hK undef _ HDN.out
                        · (refine OpH.rd rfl rfl (fun ρ us w6 ho ht hc hl hsrc hW => ?_); clear ht ho; simp only [execOp]; go_simp; try rfl)
                        -- TSAF
                        · intro us w9 hmem hW
                          obtain ⟨us0, W6, x0, rfl, rfl, hb, hR, hn1⟩ := hW.last (hmem 15 (by decide))
                          obtain ⟨v6, l6, m6⟩ := lookup_mem (before_mid (hmem 3 (by decide)) (by decide))
                          obtain ⟨v16, l16, m16⟩ := lookup_mem (before_mid (hmem 13 (by decide)) (by decide))
                          obtain ⟨g6, rfl, hg6, r6⟩ := (hR 3 v6 m6).1 rfl
                          obtain ⟨g16, rfl, hg16, r16⟩ := (hR 13 v16 m16).2 rfl
                          have hst : stN (w.heap.size + 2) x.id 3 13 us0 W6 = setAll (w.heap.size + 2) 0 [.int .i64 x.id, .slice (some ⟨g6, 0, none⟩) 1 1, .slice (some ⟨g16, 0, none⟩) 1 1] W6 := by unfold stN; rw [l6, l16]; rfl
                          rw [hst]
                          have hrow := setAll_3 (a := .int .i64 x.id) (b := .slice (some ⟨g6, 0, none⟩) 1 1) (c := .slice (some ⟨g16, 0, none⟩) 1 1) (BOXR.out W6 hb)
                          have q6 := (setAll_other (g := w.heap.size + 2) (show g6 ≠ w.heap.size + 2 by have := HBW.out; omega) [.int .i64 x.id, .slice (some ⟨g6, 0, none⟩) 1 1, .slice (some ⟨g16, 0, none⟩) 1 1] 0 W6).trans r6
                          have q16 := (setAll_other (g := w.heap.size + 2) (show g16 ≠ w.heap.size + 2 by have := HBW.out; omega) [.int .i64 x.id, .slice (some ⟨g6, 0, none⟩) 1 1, .slice (some ⟨g16, 0, none⟩) 1 1] 0 W6).trans r16
                          have hBB := setAll_below (g := w.heap.size + 2) (m := w.heap.size) (by omega) [.int .i64 x.id, .slice (some ⟨g6, 0, none⟩) 1 1, .slice (some ⟨g16, 0, none⟩) 1 1] 0 W6 (HALL.out _ (HB.out.trans (hb.mono HB.out.size)))
                          simp only [putAll, List.map_cons, List.map_nil, List.foldl_cons, List.foldl_nil, Act.put, List.setIfInBounds_toArray, List.set_cons_succ, List.set_cons_zero]
                          generalize hsv : slotAt _ _ _ = sv
                          have hs : sv 7 = .int .i64 0 := by rw [← hsv]; rfl
                          rw [hs]
                          clear hsv hs hst hb hR hn1 hW hmem l6 l16 m6 m16 r6 r16 CEL
                          generalize setAll (w.heap.size + 2) 0 [.int .i64 x.id, .slice (some ⟨g6, 0, none⟩) 1 1, .slice (some ⟨g16, 0, none⟩) 1 1] W6 = w9 at *
                          have HFIN : Hid (RetNd w (needOf y f e x) (.int .i64 0) (.returned (.tuple #[.agg #[.int .i64 x.id, .slice (some ⟨g6, 0, none⟩) 1 1, .slice (some ⟨g16, 0, none⟩) 1 1], .int .i64 0])) w9) := Lib.hid
                            (by rw [HNE.out]; exact ⟨_, _, _, _, _, _, rfl, (sl_one_int (HQ.out.1) q6).mono (fun b hb _ => by have := HBW.out; have : b = g6 := hb; omega), (sl_one_slot (p := ⟨(e : Int), ps⟩) HQ.out.2 q16).mono (fun b hb _ => by have := HBW.out; have : b = g16 := hb; omega), hBB⟩)
                          have p0 := cell_of_row _ _ 0 _ _ _ hrow
                          have p1 := cell_of_row _ _ 1 _ _ _ hrow
                          have p2 := cell_of_row _ _ 2 _ _ _ hrow
                          clear hrow q6 q16 hBB
                          go_wp2
                          refine bodyPost_ret (v := .tuple #[.agg #[.int .i64 x.id, .slice (some ⟨g6, 0, none⟩) 1 1, .slice (some ⟨g16, 0, none⟩) 1 1], .int .i64 0]) (by simp [results, Try.results68, go_sem, *]; done) rfl ?_
                          rw [HRES.out]
                          exact HFIN.out
                      · have HF := Lib.hid (HNEXT.out (by rw [HSPX.out, decide_eq_true hq0, decide_eq_false hq1]; rfl))
                        clear hqe
                        go_wp2
                        exact ⟨⟨k + 1, by omega, by go_num, HB, HF⟩, by simp [intOf]; omega⟩
                    · have HF := Lib.hid (HNEXT.out (by rw [HSPX.out, decide_eq_false hq0]; rfl))
                      have HB := Lib.hid (HBb.out.trans (HB5.out.mono HBb.out.size))
                      clear hqq
                      go_wp2
                      exact ⟨⟨k + 1, by omega, by go_num, HB, HF⟩, by simp [intOf]; omega⟩
                  · have HRES : Hid (R = (noNeed, 3)) := Lib.hid (by have h2 := HRR.out; rw [idxOf_none (d := default) (fun j hj => hno.out j (by have := HL.out; omega)), if_neg (by decide)] at h2; rw [HGD.out, h2]; rfl)
                    have hrow := ROW1.out wr HB.out
                    have f0 := (cell_of_row wr _ 0 _ _ _ hrow).trans (show _ = some (Value.int .i64 0) from rfl)
                    have f1 := (cell_of_row wr _ 1 _ _ _ hrow).trans (show _ = some (Value.slice none 0 0) from rfl)
                    have f2 := (cell_of_row wr _ 2 _ _ _ hrow).trans (show _ = some (Value.slice none 0 0) from rfl)
                    have f4 := frozen_of_row wr _ 0 _ _ hrow
                    have f5 := frozen_of_row wr _ 1 _ _ hrow
                    have f6 := frozen_of_row wr _ 2 _ _ hrow
                    have hsame : Hid (((wr.setCell ⟨w.heap.size + 2, 0, none⟩ (.int .i64 0)).setCell ⟨w.heap.size + 2, 1, none⟩ (.slice none 0 0)).setCell ⟨w.heap.size + 2, 2, none⟩ (.slice none 0 0) = wr) := Lib.hid (by
                      rw [setCell_same (k := 0) (v := (.int .i64 0)) hrow rfl, setCell_same (k := 1) (v := (.slice none 0 0)) hrow rfl, setCell_same (k := 2) (v := (.slice none 0 0)) hrow rfl])
                    clear hrow
                    go_wp2
                    rw [hsame.out]
                    refine bodyPost_ret (v := .tuple #[.agg #[.int .i64 0, .slice none 0 0, .slice none 0 0], .int .i64 3]) (by simp [results, Try.results68, go_sem, *]; done) rfl ?_
                    rw [HRES.out]
                    exact RetNd.no (HALL.out _ HB.out)
end Go.Proofs.Ytfccghfcilccfaa
