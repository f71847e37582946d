/- siloref16.Book: the page's way to ask a book. Printed by gen_q11.py. -/
import Derived.Test.YtjeecdoffoahkaaQ13r
import Derived.Test.YtjeecdoffoahkaaQ14r
import Derived.Test.YtjeecdoffoahkaaB2r
namespace Go.Proofs.Ytjeecdoffoahkaa
open Go.RowKit Go.Silo

/-- What the page asks of a book first. -/
def headB (s : Shape) (l : List Stripe) (xs : List Entry) (gs : List Tag) (nx : Int) : Bool := decide (xs.length ≤ 60) && (decide (gs.length ≤ 40) && (decide (0 ≤ nx ∧ nx ≤ 1073741824) && (stripesB s l && shapeOk s)))
theorem head_yes {s : Shape} {l : List Stripe} {xs : List Entry} {gs : List Tag} {nx : Int} (h : headB s l xs gs nx = true) :
    shapeOk s = true ∧ stripesB s l = true ∧ xs.length ≤ 60 ∧ gs.length ≤ 40 ∧ bookOk s ⟨l, xs, gs, nx⟩ = (stripesOk s nx l && (thingsOk s l xs && tagsOk gs)) := by
  unfold headB at h
  simp only [Bool.and_eq_true, decide_eq_true_eq] at h
  obtain ⟨h1, h2, h3, h4, h5⟩ := h
  refine ⟨h5, h4, h1, h2, ?_⟩
  unfold bookOk
  simp only
  rw [h5, decide_eq_true h3]; rfl
theorem head_no {s : Shape} {l : List Stripe} {xs : List Entry} {gs : List Tag} {nx : Int} (h : headB s l xs gs nx = false) : bookOk s ⟨l, xs, gs, nx⟩ = false := by
  cases hb : bookOk s ⟨l, xs, gs, nx⟩ with
  | false => rfl
  | true =>
    exfalso
    unfold bookOk at hb
    simp only [Bool.and_eq_true, decide_eq_true_eq] at hb
    obtain ⟨h1, h2, h3, h4, h5⟩ := hb
    have hq : (stripesB s l && shapeOk s) = true := by
      cases hq : (stripesB s l && shapeOk s) with
      | true => rfl
      | false => have := stripesB_off (nx := nx) hq; rw [h1, h3] at this; cases this
    have hx : xs.length ≤ 60 := by unfold thingsOk at h4; simp only [Bool.and_eq_true, decide_eq_true_eq] at h4; exact h4.2.2
    have hg : gs.length ≤ 40 := by unfold tagsOk at h5; simp only [Bool.and_eq_true, decide_eq_true_eq] at h5; exact h5.2
    unfold headB at h
    rw [decide_eq_true hx, decide_eq_true hg, decide_eq_true h2, hq] at h
    cases h
/-- Those that lie on a disk. -/
def takenX (l : List Slot) : List Slot := l.filter (fun p => decide (0 ≤ p.disk))
theorem takenX_on {l : List Slot} {p : Slot} (h : 0 ≤ p.disk) : takenX (l ++ [p]) = takenX l ++ [p] := by unfold takenX; rw [List.filter_append]; simp [h]
theorem takenX_off {l : List Slot} {p : Slot} (h : ¬ 0 ≤ p.disk) : takenX (l ++ [p]) = takenX l := by unfold takenX; rw [List.filter_append]; simp [h]
theorem takenX_le (l : List Slot) : (takenX l).length ≤ l.length := List.length_filter_le _ _
theorem takenX_mem {l : List Slot} {p : Slot} (h : p ∈ takenX l) : p ∈ l := (List.mem_filter.1 h).1
theorem mem_takenX {l : List Slot} {p : Slot} (h : p ∈ l) (hd : 0 ≤ p.disk) : p ∈ takenX l := List.mem_filter.2 ⟨h, by simpa using hd⟩
theorem mem_getD {α : Type} {l : List α} {p d : α} (h : p ∈ l) : ∃ j, j < l.length ∧ l.getD j d = p := by
  obtain ⟨j, hj, e⟩ := List.getElem_of_mem h
  exact ⟨j, hj, by rw [List.getD_eq_getElem?_getD, List.getElem?_eq_getElem hj]; exact e⟩
theorem getD_mem' {α : Type} {l : List α} {j : Nat} {d : α} (h : j < l.length) : l.getD j d ∈ l := by
  rw [List.getD_eq_getElem?_getD, List.getElem?_eq_getElem h]; exact List.getElem_mem h
/-- A new list of truths. -/
theorem own_bools {w' : World} {S : Nat → Prop} {base g n : Nat} (h : w'.ownsRow base 4 1 (.slice (some ⟨g, 0, none⟩) n n) n (madeCells #[.bool false] n).toList) : Silo.Own 4 boolE w' base S (some ⟨g, 0, none⟩) n n (List.replicate n false) := by
  rw [toList_madeCells_one] at h
  refine ⟨List.replicate n (.bool false), h, by simp, fun k x hx => ?_⟩
  have hk : k < n := by have := (List.getElem?_eq_some_iff.1 hx).1; simpa using this
  rw [List.getElem?_replicate, if_pos hk] at hx
  injection hx with hx
  subst hx
  refine ⟨?_, trivial⟩
  rw [show boolE.sz = 1 from rfl, Nat.mul_one, List.drop_replicate, List.take_replicate, show min 1 (n - k) = 1 by omega]
  rfl
theorem namedB_nil (l : List Stripe) : namedB l [] = List.replicate l.length false := by
  unfold namedB
  rw [List.eq_replicate_iff]
  exact ⟨by simp, fun b hb => by obtain ⟨y, _, rfl⟩ := List.mem_map.1 hb; simp⟩
theorem lensF_none {W : Int} {l : List Stripe} {ys : List Int} {k : Nat} {left : Int} (hk : k < ys.length) (h : atX l (ys.getD k 0) < 0) : lensF W l (ys.drop k) left = false := by rw [lensF_step hk, findId_atX_none h]
theorem lensF_at {W : Int} {l : List Stripe} {ys : List Int} {k p : Nat} {left : Int} (hk : k < ys.length) (hp : p < l.length) (h : atX l (ys.getD k 0) = (p : Int)) : lensF W l (ys.drop k) left = (if (l.getD p default).len = min left W then lensF W l (ys.drop (k + 1)) (left - (l.getD p default).len) else false) := by rw [lensF_step hk, findId_atX hp h]

set_option maxRecDepth 100000 in
set_option maxHeartbeats 32000000 in
theorem refBook_i {tg tg0 tg1 tg2 : Bool} {S : Nat → Prop} {w : World} {A0 A1 A2 : Option Addr} {n0 c0 n1 c1 n2 c2 : Nat} {s : Shape} {l : List Stripe} {xs : List Entry} {gs : List Tag} {nx : Int} (hn0 : n0 ≤ 4000) (hfs : (slotsTo l l.length).length ≤ 1000000)
    (h0 : Sl tg 97 (stripeE tg0) w S A0 n0 c0 l) (h1 : Sl tg 130 (entryE tg1) w S A1 n1 c1 xs) (h2 : Sl tg2 133 tagE w S A2 n2 c2 gs) :
    Calls Try.prog 11 #[.agg #[.int .i64 s.K, .int .i64 s.M, .int .i64 s.size], .agg #[.slice A0 n0 c0, .slice A1 n1 c1, .slice A2 n2 c2, .int .i64 nx]] w (RetV (.bool (bookOk s ⟨l, xs, gs, nx⟩)) w) := by
  obtain ⟨ib, hib, hzb0, hzb1, hzb2⟩ := info_parts Try.info_Bool
  obtain ⟨ic, hic, hzc0, hzc1, hzc2⟩ := info_parts Try.info_Slot
  have HL0 := Lib.hid h0.len
  have HL1 := Lib.hid h1.len
  have HL2 := Lib.hid h2.len
  have hcap1 : n1 ≤ 9223372036854775807 := Nat.le_trans h1.le h1.cap
  have hcap2 : n2 ≤ 9223372036854775807 := Nat.le_trans h2.le h2.cap
  have HFS := Lib.hid hfs; clear hfs
  obtain ⟨R, hR⟩ : ∃ R, R = bookOk s ⟨l, xs, gs, nx⟩ := ⟨_, rfl⟩
  rw [← hR]
  have HR := Lib.hid hR; clear hR
  obtain ⟨hd, hhd⟩ : ∃ hd, hd = headB s l xs gs nx := ⟨_, rfl⟩
  have HHD := Lib.hid hhd; clear hhd
  have hal : Below w.heap.size w ((w.alloc (.cells #[.int .i64 s.K, .int .i64 s.M, .int .i64 s.size] 23)).alloc (.cells #[.slice A0 n0 c0, .slice A1 n1 c1, .slice A2 n2 c2, .int .i64 nx] 28)) := (by repeat' (first | (with_reducible exact Below.refl _ _) | (with_reducible refine Below.alloc ?_ ?_ _) | (with_reducible refine Below.drew ?_) | (with_reducible refine below_drewN ?_ _) | (with_reducible refine Below.setCell ?_ ?_ _) | (refine via ?_ (by with_reducible assumption) ?_) | (refine via ?_ (below_ext _ _) ?_) | go_size))
  have hr0 : ((w.alloc (.cells #[.int .i64 s.K, .int .i64 s.M, .int .i64 s.size] 23)).alloc (.cells #[.slice A0 n0 c0, .slice A1 n1 c1, .slice A2 n2 c2, .int .i64 nx] 28)).heap[w.heap.size]? = some (.cells #[.int .i64 s.K, .int .i64 s.M, .int .i64 s.size] 23 (0, 0)) := by
    rw [Below.heap_alloc _ _ _ (by simp; try omega)]
    have := heap_alloc_new w (.cells #[.int .i64 s.K, .int .i64 s.M, .int .i64 s.size] 23)
    simpa only [World.size_alloc] using this
  have hr1 : ((w.alloc (.cells #[.int .i64 s.K, .int .i64 s.M, .int .i64 s.size] 23)).alloc (.cells #[.slice A0 n0 c0, .slice A1 n1 c1, .slice A2 n2 c2, .int .i64 nx] 28)).heap[w.heap.size + 1]? = some (.cells #[.slice A0 n0 c0, .slice A1 n1 c1, .slice A2 n2 c2, .int .i64 nx] 28 (0, 0)) := by
    have := heap_alloc_new (w.alloc (.cells #[.int .i64 s.K, .int .i64 s.M, .int .i64 s.size] 23)) (.cells #[.slice A0 n0 c0, .slice A1 n1 c1, .slice A2 n2 c2, .int .i64 nx] 28)
    simpa only [World.size_alloc] using this
  have hz : w.heap.size + 1 < ((w.alloc (.cells #[.int .i64 s.K, .int .i64 s.M, .int .i64 s.size] 23)).alloc (.cells #[.slice A0 n0 c0, .slice A1 n1 c1, .slice A2 n2 c2, .int .i64 nx] 28)).heap.size := by simp
  have HS := Lib.hid (fun W (hW : Below w.heap.size w W) => h0.all hW); clear h0
  have HT := Lib.hid (fun W (hW : Below w.heap.size w W) => h1.all hW); clear h1
  have HG := Lib.hid (fun W (hW : Below w.heap.size w W) => h2.all hW); clear h2
  go_enter Try.func11, Try.ntmps11
  go_upto_region 1 with (fail)
  generalize ((w.alloc (.cells #[.int .i64 s.K, .int .i64 s.M, .int .i64 s.size] 23)).alloc (.cells #[.slice A0 n0 c0, .slice A1 n1 c1, .slice A2 n2 c2, .int .i64 nx] 28)) = W0 at *
  have HAL := Lib.hid (fun V (hV : Below W0.heap.size W0 V) => hal.trans (hV.mono hal.size)); clear hal
  have ROW := Lib.hid (fun V (hV : Below W0.heap.size W0 V) => (show V.heap[w.heap.size]? = some (.cells #[.int .i64 s.K, .int .i64 s.M, .int .i64 s.size] 23 (0, 0)) ∧ V.heap[w.heap.size + 1]? = some (.cells #[.slice A0 n0 c0, .slice A1 n1 c1, .slice A2 n2 c2, .int .i64 nx] 28 (0, 0)) from ⟨(hV.block _ (by omega)).trans hr0, (hV.block _ (by omega)).trans hr1⟩))
  clear hr0 hr1
  have hz1 : w.heap.size + 1 < W0.heap.size := by omega
  go_cut [45] from 17 (fun t V => t = .bool (!hd) ∧ Hid (Below W0.heap.size W0 V))
  case first =>
    obtain ⟨r0, r1⟩ := ROW.out W0 (Below.refl _ _)
    have b10 := (cell_of_row _ _ 0 _ _ _ r1).trans (show _ = some (.slice _ n0 c0 : Value) from rfl)
    have b11 := (cell_of_row _ _ 1 _ _ _ r1).trans (show _ = some (.slice _ n1 c1 : Value) from rfl)
    have b12 := (cell_of_row _ _ 2 _ _ _ r1).trans (show _ = some (.slice _ n2 c2 : Value) from rfl)
    have b13 := (cell_of_row _ _ 3 _ _ _ r1).trans (show _ = some (.int .i64 nx : Value) from rfl)
    clear r0 r1
    have HHE : Hid (hd = (decide (n1 ≤ 60) && (decide (n2 ≤ 40) && (decide (0 ≤ nx ∧ nx ≤ 1073741824) && (stripesB s l && shapeOk s))))) := Lib.hid (by rw [HHD.out]; unfold headB; rw [HL1.out, HL2.out])
    by_cases g1 : 60 < n1
    · have HF : Hid (hd = false) := Lib.hid (by rw [HHE.out, decide_eq_false (by omega : ¬ n1 ≤ 60)]; rfl)
      go_wp2
      go_meet
      case rel => exact ⟨by rw [HF.out]; rfl, Lib.hid (Below.refl _ _)⟩
    · have HHE2 : Hid (hd = (decide (n2 ≤ 40) && (decide (0 ≤ nx ∧ nx ≤ 1073741824) && (stripesB s l && shapeOk s)))) := Lib.hid (by rw [HHE.out, decide_eq_true (by omega : n1 ≤ 60)]; rfl)
      by_cases g2 : 40 < n2
      · have HF : Hid (hd = false) := Lib.hid (by rw [HHE2.out, decide_eq_false (by omega : ¬ n2 ≤ 40)]; rfl)
        go_wp2
        go_meet
        case rel => exact ⟨by rw [HF.out]; rfl, Lib.hid (Below.refl _ _)⟩
      · have HHE3 : Hid (hd = (decide (0 ≤ nx ∧ nx ≤ 1073741824) && (stripesB s l && shapeOk s))) := Lib.hid (by rw [HHE2.out, decide_eq_true (by omega : n2 ≤ 40)]; rfl)
        go_wp2_with fail
        refine (Num_c (n := nx) (m := 1073741824)).mono ?_
        rintro e w1 ⟨rfl, hb1⟩
        have HB1 := Lib.hid hb1; clear hb1 b10 b11 b12 b13
        generalize decide (0 ≤ nx ∧ nx ≤ 1073741824) = d1 at *
        cases d1 with
        | false =>
          have HF : Hid (hd = false) := Lib.hid HHE3.out
          go_wp2
          go_meet
          case rel => exact ⟨by rw [HF.out]; rfl, HB1⟩
        | true =>
          obtain ⟨r0, r1⟩ := ROW.out w1 HB1.out
          have b00 := (cell_of_row _ _ 0 _ _ _ r0).trans (show _ = some (.int .i64 s.K : Value) from rfl)
          have b01 := (cell_of_row _ _ 1 _ _ _ r0).trans (show _ = some (.int .i64 s.M : Value) from rfl)
          have b02 := (cell_of_row _ _ 2 _ _ _ r0).trans (show _ = some (.int .i64 s.size : Value) from rfl)
          have b10 := (cell_of_row _ _ 0 _ _ _ r1).trans (show _ = some (.slice _ n0 c0 : Value) from rfl)
          clear r0 r1
          go_wp2_with fail
          refine (refStripes_c (s := s) (HS.out _ (HAL.out _ HB1.out))).mono ?_
          rintro e w2 ⟨rfl, hb2⟩
          have HB2 := Lib.hid (HB1.out.trans (hb2.mono HB1.out.size)); clear hb2 HB1 b00 b01 b02 b10
          generalize (stripesB s l && shapeOk s) = q at *
          have HF : Hid (hd = q) := Lib.hid HHE3.out
          go_wp2
          go_meet
          case rel => exact ⟨by rw [HF.out, decide_eq_false (by omega : ¬ (4000 : Int) < (n0 : Int)), decide_eq_false (by omega : ¬ (60 : Int) < (n1 : Int)), decide_eq_false (by omega : ¬ (40 : Int) < (n2 : Int))]; rfl, HB2⟩
  case rest =>
    rename World => wc
    obtain ⟨rfl, HBc⟩ := hcut
    cases hd with
    | false =>
      have HE : Hid (R = false) := Lib.hid (HR.out.trans (head_no HHD.out.symm))
      go_wp2
      go_ret
      exact ⟨by rw [HE.out]; rfl, HAL.out _ HBc.out⟩
    | true =>
      obtain ⟨hsh, hsb, hx60, hg40, hRe⟩ := head_yes HHD.out.symm
      obtain ⟨k1, k2, m1, m2, s1, s2⟩ := shapeOk_K hsh
      have hW1 : 1 ≤ s.K * s.size := by have := Int.mul_le_mul k1 s1 (by omega) (by omega); omega
      have hW2 : s.K * s.size ≤ 960 := by have := Int.mul_le_mul k2 s2 (by omega) (by omega); omega
      have HSH := Lib.hid hsh; clear hsh
      have HSB := Lib.hid hsb; clear hsb
      have hn60 : n1 ≤ 60 := by have := HL1.out; omega
      have hn40 : n2 ≤ 40 := by have := HL2.out; omega
      have HR2 := Lib.hid (HR.out.trans hRe); clear hRe HR HHD hx60 hg40
      clear k1 k2 m1 m2 s1 s2
      go_wp2_with fail
      go_loopw [5, 6] (fun tv iv wr => ∃ k : Nat, ∃ A c, k ≤ n0 ∧ iv = .int .i64 k ∧ tv = .slice A (takenX (slotsTo l k)).length c ∧ Hid (Silo.Own 112 slotE wr W0.heap.size (fun _ => True) A (takenX (slotsTo l k)).length c (takenX (slotsTo l k))) ∧ Hid (Below W0.heap.size W0 wr) ∧ Hid (∀ j, j < k → (l.getD j default).id < nx) ∧ Hid (apartL (slotsTo l k) = true)) (fun _ iv _ => n0 - (intOf iv).toNat)
      case atStart => exact ⟨0, none, 0, Nat.zero_le _, rfl, by rfl, Lib.hid Silo.Own.nil_, HBc, Lib.hid (fun j hj => by omega), Lib.hid (by simp [slotsTo, apartL])⟩
      case round =>
        rename World => wo
        clear HBc
        obtain ⟨k, A, c, hk, rfl, rfl, HO, HB, HI, HN⟩ := hrel
        have hzo1 := Nat.lt_of_lt_of_le hz1 HB.out.size
        by_cases hlt : k < n0
        · obtain ⟨bE, oE, A3, n3, c3, eA, _, hbE, _, _, _, hp3, u0, _, _, u3, _⟩ := (HS.out W0 (HAL.out _ (Below.refl _ _))).stripe_at hlt
          subst eA
          have HLN := Lib.hid hp3.len
          have hcap3 : n3 ≤ 9223372036854775807 := Nat.le_trans hp3.le hp3.cap
          have HP3 := Lib.hid (fun V (hV : Below W0.heap.size W0 V) => hp3.all hV); clear hp3
          have HU := Lib.hid (fun V (hV : Below W0.heap.size W0 V) => And.intro ((hV.cell (p := ⟨bE, oE + k * 4, none⟩) hbE).trans u0) ((hV.cell (p := ⟨bE, oE + k * 4 + 3, none⟩) hbE).trans u3)); clear u0 u3
          have hbo := Nat.lt_of_lt_of_le hbE HB.out.size
          have HST := Lib.hid (stripesB_at (nx := nx) HSB.out (k := k) (by have := HL0.out; omega))
          have HLE : Hid ((slotsTo l k).length + (l.getD k default).place.length ≤ 1000000) := Lib.hid (by
            obtain ⟨r, hr⟩ := slotsTo_le (l := l) (k + 1)
            have h2 := HFS.out
            rw [hr, slotsTo_succ (by have := HL0.out; omega), List.length_append, List.length_append] at h2
            omega)
          obtain ⟨x, hx⟩ : ∃ x, x = l.getD k default := ⟨_, rfl⟩
          rw [← hx] at HLN HP3 HU HST HLE
          have HXD := Lib.hid hx; clear hx
          obtain ⟨r0, r1⟩ := ROW.out wo HB.out
          have b10 := (cell_of_row _ _ 0 _ _ _ r1).trans (show _ = some (.slice _ n0 c0 : Value) from rfl)
          have b13 := (cell_of_row _ _ 3 _ _ _ r1).trans (show _ = some (.int .i64 nx : Value) from rfl)
          clear r0 r1
          obtain ⟨u0, _⟩ := HU.out wo HB.out
          by_cases cB : nx ≤ x.id
          · have HE : Hid (R = false) := Lib.hid (by rw [HR2.out, stripesOk_bad (k := k) (by have := HL0.out; omega) (HST.out.trans (decide_eq_false (by omega)))]; rfl)
            go_wp2_with fail
            have hext := cell_ext wo
            refine region_ext (by kernel_rfl) (by kernel_rfl) ?_
            repeat (go_big_quiet_step (fail))
            refine wpQuiet_nil ?_
            rintro _ ⟨X, rfl⟩
            have HB3 := Lib.hid (HB.out.trans ((below_ext wo X).mono HB.out.size))
            clear hext b10 b13 u0
            generalize wo.ext X = w3 at *
            go_wp2
            go_ret
            exact ⟨by rw [HE.out]; rfl, HAL.out _ HB3.out⟩
          · have HI2 : Hid (∀ j, j < k + 1 → (l.getD j default).id < nx) := Lib.hid (fun j hj => by
              rcases Nat.lt_or_ge j k with h | h
              · exact HI.out j h
              · obtain rfl : j = k := by omega
                rw [← HXD.out]; omega)
            go_wp2_with fail
            have hext := cell_ext wo
            refine region_ext (by kernel_rfl) (by kernel_rfl) ?_
            repeat (go_big_quiet_step (fail))
            refine wpQuiet_nil ?_
            rintro _ ⟨X, rfl⟩
            have HB3 := Lib.hid (HB.out.trans ((below_ext wo X).mono HB.out.size))
            have HO3 := Lib.hid (HO.out.all (below_ext wo X))
            clear hext b10 b13 u0 HO HB
            generalize wo.ext X = w3 at *
            go_wp2_with fail
            go_loopw [5, 7] (fun tv jv wr => ∃ j : Nat, ∃ A c, j ≤ n3 ∧ jv = .int .i64 j ∧ tv = .slice A (takenX (slotsTo l k ++ x.place.take j)).length c ∧ Hid (Silo.Own 112 slotE wr W0.heap.size (fun _ => True) A (takenX (slotsTo l k ++ x.place.take j)).length c (takenX (slotsTo l k ++ x.place.take j))) ∧ Hid (Below W0.heap.size W0 wr) ∧ Hid (apartL (slotsTo l k ++ x.place.take j) = true)) (fun _ jv _ => n3 - (intOf jv).toNat)
            case atStart => exact ⟨0, A, c, Nat.zero_le _, rfl, by simp, by simpa using HO3, HB3, by simpa using HN⟩
            case round =>
              rename World => wj
              clear HO3 HB3 HN
              obtain ⟨j, A', c', hj, rfl, rfl, HOj, HBj, HNj⟩ := hrel
              by_cases hjl : j < n3
              · obtain ⟨b3, o3, e3, _, hb3, g1, g2, v0, v1, _⟩ := (HP3.out wj HBj.out).slot_at hjl
                subst e3
                have hjy : j < x.place.length := by have := HLN.out; omega
                have htk2 : x.place.take (j + 1) = x.place.take j ++ [x.place.getD j default] := by rw [List.take_add_one, List.getElem?_eq_getElem hjy, List.getD_eq_getElem?_getD, List.getElem?_eq_getElem hjy]; rfl
                have HTW := Lib.hid (fun (hd : 0 ≤ (x.place.getD j default).disk) (hm : x.place.getD j default ∈ slotsTo l k ++ x.place.take j) => stripesOk_twice (s := s) (nx := nx) (l := l) (k := k) (j := j) (by have := HL0.out; omega) (by rw [← HXD.out]; exact hjy) (by rw [← HXD.out]; exact hd) (by rw [← HXD.out]; exact hm))
                have HTK2 := Lib.hid htk2; clear htk2
                have hTl : (takenX (slotsTo l k ++ x.place.take j)).length ≤ 1000000 := by
                  have h1 := takenX_le (slotsTo l k ++ x.place.take j)
                  have h2 := HLE.out
                  rw [List.length_append, List.length_take] at h1
                  omega
                generalize x.place.getD j default = p at *
                have HGP := Lib.hid (And.intro g1 g2); clear g1 g2
                obtain ⟨r0, r1⟩ := ROW.out wj HBj.out
                have b10 := (cell_of_row _ _ 0 _ _ _ r1).trans (show _ = some (.slice _ n0 c0 : Value) from rfl)
                clear r0 r1
                obtain ⟨_, u3⟩ := HU.out wj HBj.out
                go_upto_region 13 with (fail)
                have hal2 : Below wj.heap.size wj (wj.alloc (.cells #[.int .i64 p.disk, .int .i64 p.pos] 112)) := (Below.refl _ _).alloc (Nat.le_refl _) _
                have hrow := heap_alloc_new wj (.cells #[.int .i64 p.disk, .int .i64 p.pos] 112)
                have hzl : wj.heap.size < (wj.alloc (.cells #[.int .i64 p.disk, .int .i64 p.pos] 112)).heap.size := by simp
                have HBp := Lib.hid (HBj.out.trans (hal2.mono HBj.out.size))
                have HOp := Lib.hid (HOj.out.all hal2)
                clear hal2 v0 v1 u3 b10 HOj HBj
                generalize (wj.alloc (.cells #[.int .i64 p.disk, .int .i64 p.pos] 112)) = wp at *
                generalize wj.heap.size = g9 at *
                have ROWP := Lib.hid (fun V (hV : Below wp.heap.size wp V) => (hV.block _ hzl).trans hrow); clear hrow
                have z0 := (cell_of_row _ _ 0 _ _ _ (ROWP.out wp (Below.refl _ _))).trans (show _ = some (.int .i64 p.disk : Value) from rfl)
                by_cases hpd : 0 ≤ p.disk
                · have HT2 : Hid (takenX (slotsTo l k ++ x.place.take (j + 1)) = takenX (slotsTo l k ++ x.place.take j) ++ [p]) := Lib.hid (by rw [HTK2.out, ← List.append_assoc, takenX_on hpd])
                  have HMT := Lib.hid (fun (hm : p ∈ takenX (slotsTo l k ++ x.place.take j)) => HTW.out hpd (takenX_mem hm)); clear HTW
                  have HNN := Lib.hid (fun (hm : p ∉ takenX (slotsTo l k ++ x.place.take j)) => (show apartL (slotsTo l k ++ x.place.take (j + 1)) = true from by
                    rw [HTK2.out, ← List.append_assoc]
                    exact apartL_snoc HNj.out (fun hd h => hm (mem_takenX h hd))))
                  clear HNj HTK2
                  generalize takenX (slotsTo l k ++ x.place.take j) = TT at *
                  have HLT := Lib.hid HOp.out.len
                  go_wp2_with fail
                  clear z0
                  go_loopw [9] (fun qv wr => ∃ q : Nat, q ≤ TT.length ∧ qv = .int .i64 q ∧ Hid (Below wp.heap.size wp wr) ∧ Hid (∀ i, i < q → TT.getD i default ≠ p)) (fun qv _ => TT.length - (intOf qv).toNat)
                  case atStart => exact ⟨0, Nat.zero_le _, rfl, Lib.hid (Below.refl _ _), Lib.hid (fun i hi => by omega)⟩
                  case round =>
                    rename World => wq
                    obtain ⟨q, hq, rfl, HBq, HQ⟩ := hrel
                    have zp := (cell_of_row _ _ 0 _ _ _ (ROWP.out wq HBq.out)).trans (show _ = some (.int .i64 p.disk : Value) from rfl)
                    have zq := (cell_of_row _ _ 1 _ _ _ (ROWP.out wq HBq.out)).trans (show _ = some (.int .i64 p.pos : Value) from rfl)
                    by_cases hql : q < TT.length
                    · obtain ⟨bt, ot, et, _, hbt, _, _, y0, y1, _⟩ := ((HOp.out.all HBq.out).sl (tg := true)).slot_at hql
                      subst et
                      obtain ⟨t, ht⟩ : ∃ t, t = TT.getD q default := ⟨_, rfl⟩
                      rw [← ht] at y0 y1
                      have HTD := Lib.hid ht; clear ht
                      by_cases htp : t = p
                      · have HE : Hid (R = false) := Lib.hid (by rw [HR2.out, HMT.out (by rw [← htp, HTD.out]; exact getD_mem' hql)]; rfl)
                        subst htp
                        have hq : ∀ W : World, (Op.equalIn 10000 112 (.agg #[.int .i64 t.disk, .int .i64 t.pos]) (.agg #[.int .i64 t.disk, .int .i64 t.pos])).run Try.prog W = .ok true W := fun W => by rw [eqv_Slot]; simp
                        have hqg := eqg_Slot
                        have HBR := Lib.hid (fun V (hV : Below wq.heap.size wq V) => HAL.out V (HBp.out.trans ((HBq.out.trans (hV.mono HBq.out.size)).mono HBp.out.size)))
                        go_wp2
                        go_quiet (fail)
                        go_wp2
                        go_ret
                        exact ⟨by rw [HE.out]; rfl, HBR.out _ (by first | exact below_drewN (Below.refl _ _) _ | exact Below.refl _ _)⟩
                      · have hq : ∀ W : World, (Op.equalIn 10000 112 (.agg #[.int .i64 t.disk, .int .i64 t.pos]) (.agg #[.int .i64 p.disk, .int .i64 p.pos])).run Try.prog W = .ok false W := fun W => by rw [eqv_Slot, decide_eq_false htp]
                        have hqg := eqg_Slot
                        have HQ2 : Hid (∀ i, i < q + 1 → TT.getD i default ≠ p) := Lib.hid (fun i hi => by
                          rcases Nat.lt_or_ge i q with h | h
                          · exact HQ.out i h
                          · obtain rfl : i = q := by omega
                            rw [← HTD.out]; exact htp)
                        clear htp
                        have HBR := Lib.hid (fun V (hV : Below wq.heap.size wq V) => HBq.out.trans (hV.mono HBq.out.size))
                        go_wp2
                        go_quiet (fail)
                        go_wp2
                        exact ⟨⟨q + 1, by omega, by go_num, Lib.hid (HBR.out _ (by first | exact below_drewN (Below.refl _ _) _ | exact Below.refl _ _)), HQ2⟩, by simp [intOf]; omega⟩
                    · obtain rfl : q = TT.length := by omega
                      have HN2 : Hid (apartL (slotsTo l k ++ x.place.take (j + 1)) = true) := Lib.hid (HNN.out (fun hm => by
                        obtain ⟨i, hi, e⟩ := mem_getD (d := default) hm
                        exact HQ.out i hi e))
                      have HOq := Lib.hid (HOp.out.all HBq.out)
                      have HBW := Lib.hid (HBp.out.trans (HBq.out.mono HBp.out.size))
                      obtain ⟨gp1, gp2⟩ := HGP.out
                      go_wp2_with (at_builtin; refine wpList_append1 rfl _ _ 75 rfl ic (.agg #[.int .i64 0, .int .i64 0]) 16 Try.underlying75 hic hzc0 hzc1 hzc2 rfl (by decide) rfl (HOq.out.frame (Agree.alloc _ _ _) (by simp)) wq.heap.size 112 1 _ p rfl (heap_alloc_new _ _) ⟨rfl, gp1, gp2⟩ (by omega) (by omega) (by have := HBW.out.size; simp; omega) ?_)
                      intro A2 c2' w2 hown2 hg2 _
                      have HO2 := Lib.hid hown2; clear hown2
                      have HB2 := Lib.hid (((HBW.out.alloc HBW.out.size _).grown hg2 (by have := HBW.out.size; simp; omega) (fun k hk => (HOq.out.lt k hk).1))); clear hg2
                      clear zp zq
                      go_wp2
                      exact ⟨⟨j + 1, A2, c2', by omega, by go_num, by rw [HT2.out, List.length_append]; rfl, by rw [HT2.out, List.length_append]; exact HO2, HB2, HN2⟩, by simp [intOf]; omega⟩
                · have HT2 : Hid (takenX (slotsTo l k ++ x.place.take (j + 1)) = takenX (slotsTo l k ++ x.place.take j)) := Lib.hid (by rw [HTK2.out, ← List.append_assoc, takenX_off hpd])
                  have HN2 : Hid (apartL (slotsTo l k ++ x.place.take (j + 1)) = true) := Lib.hid (by
                    rw [HTK2.out, ← List.append_assoc]
                    exact apartL_snoc HNj.out (fun h => absurd h hpd))
                  go_wp2
                  exact ⟨⟨j + 1, A', c', by omega, by go_num, by rw [HT2.out], by rw [HT2.out]; exact HOp, HBp, HN2⟩, by simp [intOf]; omega⟩
              · obtain rfl : j = n3 := by omega
                have HNX : Hid (slotsTo l (k + 1) = slotsTo l k ++ x.place.take j) := Lib.hid (by rw [slotsTo_succ (by have := HL0.out; omega), ← HXD.out, List.take_of_length_le (by have := HLN.out; omega)])
                obtain ⟨r0, r1⟩ := ROW.out wj HBj.out
                have b10 := (cell_of_row _ _ 0 _ _ _ r1).trans (show _ = some (.slice _ n0 c0 : Value) from rfl)
                clear r0 r1
                obtain ⟨_, u3⟩ := HU.out wj HBj.out
                go_wp2
                (refine ⟨?_, ?measure⟩; (repeat apply Exists.intro); refine ⟨?rel, rfl⟩)
                case rel => exact ⟨k + 1, A', c', by omega, by go_num, by rw [HNX.out], by rw [HNX.out]; exact HOj, HBj, HI2, by rw [HNX.out]; exact HNj⟩
                case measure => simp [intOf]; omega
        · obtain rfl : n0 = k := by omega
          have hso : stripesOk s nx l = true := stripesOk_all (fun j hj => by rw [stripesB_at HSB.out hj]; exact decide_eq_true (HI.out j (by have := HL0.out; omega))) (by rw [HL0.out]; exact HN.out)
          have HSO := Lib.hid (stripesOk_ids hso)
          have HSOK := Lib.hid hso
          have HR3 : Hid (R = (thingsOk s l xs && tagsOk gs)) := Lib.hid (by rw [HR2.out, hso]; rfl)
          clear hso HR2 HI HN HO HSB HFS
          obtain ⟨r0, r1⟩ := ROW.out wo HB.out
          have b10 := (cell_of_row _ _ 0 _ _ _ r1).trans (show _ = some (.slice _ n0 c0 : Value) from rfl)
          clear r0 r1
          go_wp2_with (at_make; refine wpList_make_full _ rfl _ _ 30 rfl W0.heap.size 4 ib (.bool false) 1 Try.underlying30 hib hzb0 hzb1 .i64 .i64 _ _ n0 rfl rfl rfl rfl (by rw [hzb2]; omega) (by unfold maxLen; omega) HB.out.size ?_)
          intro wm hown hgm
          clear b10
          have HON : Hid (Silo.Own 4 boolE wm W0.heap.size (fun _ => True) (some ⟨wo.heap.size, 0, none⟩) n0 n0 (namedB l (namedTo xs 0))) := Lib.hid (by
            rw [show namedTo xs 0 = [] from rfl, namedB_nil, HL0.out]
            exact own_bools hown)
          have HBm := Lib.hid (HB.out.grown hgm HB.out.size (fun r hr => by cases hr))
          have hgn : W0.heap.size ≤ wo.heap.size := HB.out.size
          clear hown hgm hzo1 HB
          generalize wo.heap.size = gN at *
          go_wp2_with fail
          go_loopw [11] (fun iv wr => ∃ i : Nat, i ≤ n1 ∧ iv = .int .i64 i ∧ Hid (Below W0.heap.size W0 wr) ∧ Hid (Silo.Own 4 boolE wr W0.heap.size (fun _ => True) (some ⟨gN, 0, none⟩) n0 n0 (namedB l (namedTo xs i))) ∧ Hid (∀ j, j < i → thingAt s l xs j = true) ∧ Hid (namedTo xs i).Nodup) (fun iv _ => n1 - (intOf iv).toNat)
          case atStart => exact ⟨0, Nat.zero_le _, rfl, HBm, HON, Lib.hid (fun j hj => by omega), Lib.hid (by simp [namedTo])⟩
          case round =>
            rename World => wo
            clear HBm HON
            obtain ⟨k, hk, rfl, HB, HO, HA, HND⟩ := hrel
            by_cases hlt : k < n1
            · obtain ⟨bT, oT, A4, n4, c4, eT, _, hbT, so, il, hl4, u0, u1, u2, u3, _⟩ := (HT.out W0 (HAL.out _ (Below.refl _ _))).entry_at hlt
              have hp : 0 < k → W0.cell? ⟨bT, oT + (k - 1) * 4, none⟩ = some (.string (xs.getD (k - 1) default).digest) := fun h0 => by
                obtain ⟨b', off', A', n', c', e, _, _, _, _, _, hd, _⟩ := (HT.out W0 (HAL.out _ (Below.refl _ _))).entry_at (k := k - 1) (by omega)
                rw [eT] at e
                injection e with e; injection e with e1 e2 _; subst e1; subst e2
                exact hd
              subst eT
              have hln := hl4.len
              have hcap4 : n4 ≤ 9223372036854775807 := Nat.le_trans hl4.le hl4.cap
              have HP4 := Lib.hid (fun V (hV : Below W0.heap.size W0 V) => hl4.all hV); clear hl4
              obtain ⟨pd, hpd⟩ : ∃ y, y = (xs.getD (k - 1) default).digest := ⟨_, rfl⟩
              rw [← hpd] at hp
              have hat : thingHead s xs k = (decide ((xs.getD k default).digest.size = 32) && ((decide (k = 0) || strLt pd (xs.getD k default).digest) && (decide (0 ≤ (xs.getD k default).len) && (decide ((xs.getD k default).len ≤ 2000) && decide ((xs.getD k default).list.length = manyX s (xs.getD k default).len))))) := by rw [hpd]; rfl
              rw [hln] at hat
              have HLN := Lib.hid hln; clear hln
              obtain ⟨en, hen⟩ : ∃ en, en = xs.getD k default := ⟨_, rfl⟩
              rw [← hen] at hat so il HLN HP4 u0 u1 u2
              have HEN := Lib.hid hen; clear hen hpd
              have HAT := Lib.hid hat; clear hat
              have HIL := Lib.hid il; clear il so
              have v0 := (HB.out.cell (p := ⟨bT, oT + k * 4, none⟩) hbT).trans u0
              have v1 := (HB.out.cell (p := ⟨bT, oT + k * 4 + 1, none⟩) hbT).trans u1
              have v2 := (HB.out.cell (p := ⟨bT, oT + k * 4 + 2, none⟩) hbT).trans u2
              have v3 := (HB.out.cell (p := ⟨bT, oT + k * 4 + 3, none⟩) hbT).trans u3
              clear u0 u1 u2 u3
              obtain ⟨r0, r1⟩ := ROW.out wo HB.out
              have b11 := (cell_of_row _ _ 1 _ _ _ r1).trans (show _ = some (.slice _ n1 c1 : Value) from rfl)
              clear r0 r1
              go_upto_region 25 with (fail)
              have hal2 : Below wo.heap.size wo (wo.alloc (.cells #[.string en.digest, .int .i64 en.len, .bool en.man, .slice A4 n4 c4] 130)) := (Below.refl _ _).alloc (Nat.le_refl _) _
              have hrow := heap_alloc_new wo (.cells #[.string en.digest, .int .i64 en.len, .bool en.man, .slice A4 n4 c4] 130)
              have hzl : wo.heap.size < (wo.alloc (.cells #[.string en.digest, .int .i64 en.len, .bool en.man, .slice A4 n4 c4] 130)).heap.size := by simp
              have HB4 := Lib.hid (HB.out.trans (hal2.mono HB.out.size))
              have HO4 := Lib.hid (HO.out.all hal2)
              have hgg : gN < wo.heap.size := (HO.out.lt gN rfl).2
              clear hal2 v0 v1 v2 v3 b11 HO HB
              generalize (wo.alloc (.cells #[.string en.digest, .int .i64 en.len, .bool en.man, .slice A4 n4 c4] 130)) = w4 at *
              generalize wo.heap.size = g7 at *
              have ROW7 := Lib.hid (fun V (hV : Below w4.heap.size w4 V) => (hV.block _ hzl).trans hrow); clear hrow
              go_cut [152] from 105 to 204 (fun t V => t = .bool (!thingHead s xs k) ∧ Hid (Below w4.heap.size w4 V))
              case first =>
                clear HA HND HO4
                go_wp2_with fail
                refine book25 ROW HSH hlt hn60 HB4 rfl hbT hp ROW7 HAT rfl rfl rfl rfl rfl ?_
                intro v w9 hv hb9
                simp only [putAll, List.map_cons, List.map_nil, List.foldl_cons, List.foldl_nil, Act.put, List.setIfInBounds_toArray, List.set_cons_succ, List.set_cons_zero]
                rw [hv]
                have HB9 := Lib.hid hb9; clear hv hb9
                go_wp2
                go_meet
                case rel => exact ⟨rfl, HB9⟩
              case rest =>
                rename World => wc2
                obtain ⟨rfl, HBc⟩ := hcut
                have HB5 := Lib.hid (HB4.out.trans (HBc.out.mono HB4.out.size))
                have HO5 := Lib.hid (HO4.out.all HBc.out)
                have HROW7 := Lib.hid (ROW7.out wc2 HBc.out)
                have hg7c := Nat.lt_of_lt_of_le hzl HBc.out.size
                clear HO4 ROW7 HB4 HBc hp
                obtain ⟨th, hth⟩ : ∃ th, th = thingHead s xs k := ⟨_, rfl⟩
                rw [← hth]
                cases th with
                | false =>
                  have HE : Hid (R = false) := Lib.hid (by rw [HR3.out, thingsOk_bad (k := k) (by have := HL1.out; omega) (by rw [thingAt_head, ← hth]; rfl)]; rfl)
                  clear hth
                  go_wp2
                  go_ret
                  exact ⟨by rw [HE.out]; rfl, HAL.out _ HB5.out⟩
                | true =>
                  have hth2 := hth
                  rw [HAT.out] at hth2
                  have hth3 := hth2.symm
                  simp only [Bool.and_eq_true, decide_eq_true_eq] at hth3
                  obtain ⟨_, _, hl0, hl1, hmn⟩ := hth3
                  have HTH := Lib.hid hth.symm
                  have HMN := Lib.hid hmn
                  clear hth hth2 hmn HAT
                  have HBAD : Hid (lensF (s.K * s.size) l en.list en.len = false → R = false) := Lib.hid (fun h => by rw [HR3.out, thingsOk_bad (k := k) (by have := HL1.out; omega) (by rw [thingAt_head, HTH.out, ← HEN.out, h]; rfl)]; rfl)
                  have y1 := (cell_of_row _ _ 1 _ _ _ HROW7.out).trans (show _ = some (.int .i64 en.len : Value) from rfl)
                  go_wp2_with fail
                  clear y1
                  go_loopw [13, 14] (fun lv jv wr => ∃ j : Nat, j ≤ n4 ∧ jv = .int .i64 j ∧ lv = .int .i64 (leftX (s.K * s.size) en.len j) ∧ Hid (Below W0.heap.size W0 wr) ∧ Hid (wr.heap[g7]? = some (.cells #[.string en.digest, .int .i64 en.len, .bool en.man, .slice A4 n4 c4] 130 (0, 0))) ∧ Hid (Silo.Own 4 boolE wr W0.heap.size (fun _ => True) (some ⟨gN, 0, none⟩) n0 n0 (namedB l (namedTo xs k ++ en.list.take j))) ∧ Hid (namedTo xs k ++ en.list.take j).Nodup ∧ Hid (lensF (s.K * s.size) l en.list en.len = lensF (s.K * s.size) l (en.list.drop j) (leftX (s.K * s.size) en.len j))) (fun _ jv _ => n4 - (intOf jv).toNat)
                  case atStart => exact ⟨0, Nat.zero_le _, rfl, by rw [leftX_zero hl0], HB5, HROW7, by simpa using HO5, by simpa using HND, Lib.hid (by rw [leftX_zero hl0]; rfl)⟩
                  case round =>
                    rename World => wj
                    clear HB5 HROW7 HO5 HND
                    obtain ⟨j, hj, rfl, rfl, HBj, HRj, HOj, HNj, HLj⟩ := hrel
                    have hg7 : g7 < wj.heap.size := (Array.getElem?_eq_some_iff.1 HRj.out).1
                    by_cases hjl : j < n4
                    · obtain ⟨b4, o4, e4, _, hb4, i4, hc4, _⟩ := (HP4.out W0 (Below.refl _ _)).int_at hjl
                      subst e4
                      have hjy : j < en.list.length := by have := HLN.out; omega
                      have htk2 : en.list.take (j + 1) = en.list.take j ++ [en.list.getD j 0] := by rw [List.take_add_one, List.getElem?_eq_getElem hjy, List.getD_eq_getElem?_getD, List.getElem?_eq_getElem hjy]; rfl
                      have HTW := Lib.hid (fun (hm : en.list.getD j 0 ∈ namedTo xs k ++ en.list.take j) => thingsOk_twice (s := s) (l := l) (xs := xs) (k := k) (j := j) (by have := HL1.out; omega) (by rw [← HEN.out]; exact hjy) (by rw [← HEN.out]; exact hm))
                      obtain ⟨id, hid⟩ : ∃ id, id = en.list.getD j 0 := ⟨_, rfl⟩
                      rw [← hid] at htk2 HTW hc4
                      have HIDD := Lib.hid hid; clear hid i4
                      have HTK2 := Lib.hid htk2; clear htk2
                      have HC4 := Lib.hid (fun V (hV : Below W0.heap.size W0 V) => (hV.cell (p := ⟨b4, o4 + j, none⟩) hb4).trans hc4); clear hc4
                      obtain ⟨lf, hlf⟩ : ∃ lf, lf = leftX (s.K * s.size) en.len j := ⟨_, rfl⟩
                      have hlf0 : 0 ≤ lf := by rw [hlf]; unfold leftX; omega
                      have hlf1 : lf ≤ 2000 := by
                        have h1 : 0 ≤ (j : Int) * (s.K * s.size) := Int.mul_nonneg (by omega) (by omega)
                        rw [hlf]; unfold leftX
                        generalize (j : Int) * (s.K * s.size) = q at *
                        omega
                      rw [← hlf] at HLj ⊢
                      have HLF := Lib.hid hlf.symm; clear hlf
                      have y3 := (cell_of_row _ _ 3 _ _ _ HRj.out).trans (show _ = some (.slice (some ⟨b4, o4, none⟩) n4 c4 : Value) from rfl)
                      go_wp2_with fail
                      clear y3
                      have HS0 := Lib.hid (fun W (hW : Below W0.heap.size W0 W) => HS.out W (HAL.out _ hW))
                      refine book31 ROW hjl HBj HS0 hg7 HRj HC4 rfl rfl rfl rfl ?_
                      intro v w9 hv hb9
                      simp only [putAll, List.map_cons, List.map_nil, List.foldl_cons, List.foldl_nil, Act.put, List.setIfInBounds_toArray, List.set_cons_succ, List.set_cons_zero]
                      rw [hv]
                      have HB9 := Lib.hid (HBj.out.trans (hb9.mono HBj.out.size))
                      have HO9 := Lib.hid (HOj.out.all hb9)
                      have HR9 := Lib.hid ((hb9.block _ hg7).trans HRj.out)
                      clear hv hb9 HS0 HOj HRj HC4
                      by_cases hav : atX l id < 0
                      · have HE : Hid (R = false) := Lib.hid (HBAD.out (by rw [HLj.out]; exact lensF_none (by omega) (by rw [← HIDD.out]; exact hav)))
                        generalize atX l id = av at *
                        go_wp2_with fail
                        refine book32a hav rfl rfl ?_
                        intro v w10 hv hb10
                        simp only [putAll, List.map_cons, List.map_nil, List.foldl_cons, List.foldl_nil, Act.put, List.setIfInBounds_toArray, List.set_cons_succ, List.set_cons_zero]
                        rw [hv]
                        have HB10 := Lib.hid hb10; clear hv hb10
                        go_wp2
                        go_ret
                        exact ⟨by rw [HE.out]; rfl, HAL.out _ (HB9.out.trans (HB10.out.mono HB9.out.size))⟩
                      · obtain ⟨p, hpl, hpe, hpi⟩ : ∃ p : Nat, p < l.length ∧ atX l id = (p : Int) ∧ (l.getD p default).id = id := by
                          rcases atX_cases l id with ⟨h1, _⟩ | ⟨p, h1, h2, h3, _⟩
                          · omega
                          · exact ⟨p, h1, h2, h3⟩
                        have hpn : p < n0 := by have := HL0.out; omega
                        have HIDP := Lib.hid hpi
                        obtain ⟨_, _, eb, _, hbn, hcn, _⟩ := ((HO9.out).sl (tg := true)).bool_at hpn
                        injection eb with eb; injection eb with eb1 eb2 _; subst eb1; subst eb2
                        rw [Nat.zero_add, namedB_at hpl, hpi] at hcn
                        have HLS := Lib.hid (HLj.out.trans (lensF_at (by omega) hpl (by rw [← HIDD.out]; exact hpe)))
                        rw [hpe]
                        clear hpe hpi hav
                        have hk0p : ¬ (p : Int) < 0 := by omega
                        by_cases hmm : id ∈ namedTo xs k ++ en.list.take j
                        · have HE : Hid (R = false) := Lib.hid (by rw [HR3.out, HTW.out hmm]; rfl)
                          rw [decide_eq_true hmm] at hcn
                          have HCN := Lib.hid (fun V (hV : Below w9.heap.size w9 V) => (hV.cell (p := ⟨gN, p, none⟩) hbn).trans hcn); clear hcn hmm
                          go_wp2_with fail
                          refine book32b hpn HCN rfl rfl rfl ?_
                          intro v w10 hv hb10
                          simp only [putAll, List.map_cons, List.map_nil, List.foldl_cons, List.foldl_nil, Act.put, List.setIfInBounds_toArray, List.set_cons_succ, List.set_cons_zero]
                          rw [hv]
                          have HB10 := Lib.hid hb10; clear hv hb10
                          go_wp2
                          go_ret
                          exact ⟨by rw [HE.out]; rfl, HAL.out _ (HB9.out.trans (HB10.out.mono HB9.out.size))⟩
                        · rw [decide_eq_false hmm] at hcn
                          have HCN := Lib.hid (fun V (hV : Below w9.heap.size w9 V) => (hV.cell (p := ⟨gN, p, none⟩) hbn).trans hcn); clear hcn
                          obtain ⟨bE, oE, A9, n9, c9, eA, _, hbE, _, _, _, _, _, u1, _⟩ := (HS.out W0 (HAL.out _ (Below.refl _ _))).stripe_at hpn
                          subst eA
                          have hyb := stripeOk_len (stripesOk_each HSOK.out p hpl).1
                          obtain ⟨hy1, hy2, _⟩ := hyb
                          obtain ⟨yl, hyd⟩ : ∃ yl, yl = (l.getD p default).len := ⟨_, rfl⟩
                          rw [← hyd] at u1 hy1 hy2 HLS
                          have HCY := Lib.hid (fun V (hV : Below W0.heap.size W0 V) => (hV.cell (p := ⟨bE, oE + p * 4 + 1, none⟩) hbE).trans u1)
                          clear u1 hyd
                          by_cases hyl : yl = min lf (s.K * s.size)
                          · have hne : (yl != min lf (s.K * s.size)) = false := by simp [hyl]
                            have HYL := Lib.hid hyl; clear hyl
                            go_wp2_with fail
                            refine book32d ROW HB9 hpn rfl HCN HCY hW1 hW2 hne rfl rfl rfl rfl rfl rfl ?_
                            intro v w10 hv hb10
                            simp only [putAll, List.map_cons, List.map_nil, List.foldl_cons, List.foldl_nil, Act.put, List.setIfInBounds_toArray, List.set_cons_succ, List.set_cons_zero]
                            rw [hv]
                            have HB10 := Lib.hid hb10; clear hv hb10
                            have HC10 := Lib.hid (HB9.out.trans (HB10.out.mono HB9.out.size))
                            have HO10 := Lib.hid (HO9.out.all HB10.out)
                            have HR10 := Lib.hid ((HB10.out.block _ (by have := (Array.getElem?_eq_some_iff.1 HR9.out).1; omega)).trans HR9.out)
                            obtain ⟨_, _, eb, _, _, hcn, hfn⟩ := ((HO10.out).sl (tg := true)).bool_at (k := p) (by have := HL0.out; omega)
                            injection eb with eb; injection eb with eb1 eb2 _; subst eb1; subst eb2
                            rw [Nat.zero_add] at hcn hfn
                            go_upto_region 35 with (fail)
                            clear hcn hfn
                            have HC11 := Lib.hid (HC10.out.setCell (p := ⟨gN, p, none⟩) hgn (.bool true))
                            have HO11 : Hid (Silo.Own 4 boolE (w10.setCell ⟨gN, p, none⟩ (.bool true)) W0.heap.size (fun _ => True) (some ⟨gN, 0, none⟩) n0 n0 (namedB l (namedTo xs k ++ en.list.take (j + 1)))) := Lib.hid (by
                              rw [HTK2.out, ← List.append_assoc, ← HIDP.out, ← namedB_set (by have := HL0.out; omega) HSO.out]
                              exact HO10.out.set1 rfl (by have := HL0.out; omega) ⟨rfl, trivial⟩)
                            have HR11 := Lib.hid ((Below.heap_setCell w10 ⟨gN, p, none⟩ (.bool true) g7 (by simp; omega)).trans HR10.out)
                            have HN11 : Hid (namedTo xs k ++ en.list.take (j + 1)).Nodup := Lib.hid (by
                              rw [HTK2.out, ← List.append_assoc]
                              exact List.nodup_append.2 ⟨HNj.out, by simp, fun a ha b hb e => by
                                rw [List.mem_singleton.1 hb] at e
                                subst e
                                exact hmm ha⟩)
                            have HX11 : Hid (leftX (s.K * s.size) en.len (j + 1) = lf - yl) := Lib.hid (by rw [leftX_succ hW1, HLF.out, ← HYL.out])
                            have HY11 : Hid (lensF (s.K * s.size) l en.list en.len = lensF (s.K * s.size) l (en.list.drop (j + 1)) (lf - yl)) := Lib.hid (by rw [HLS.out, if_pos HYL.out])
                            clear HO10 HR10 HC10 hmm HNj HCN
                            generalize (w10.setCell ⟨gN, p, none⟩ (.bool true)) = w11 at *
                            have y1 := HCY.out w11 HC11.out
                            obtain ⟨r0, r1⟩ := ROW.out w11 HC11.out
                            have b10 := (cell_of_row _ _ 0 _ _ _ r1).trans (show _ = some (.slice _ n0 c0 : Value) from rfl)
                            clear r0 r1
                            go_wp2
                            (refine ⟨?_, ?measure⟩; (repeat apply Exists.intro); refine ⟨?rel, rfl, rfl, rfl⟩)
                            case rel => exact ⟨j + 1, by omega, by go_num, by rw [HX11.out], HO11, HN11, by rw [HX11.out]; exact HY11⟩
                            case measure => simp [intOf]; omega
                          · have hne : (yl != min lf (s.K * s.size)) = true := by simp [hyl]
                            have HE : Hid (R = false) := Lib.hid (HBAD.out (by rw [HLS.out, if_neg hyl]))
                            clear hyl
                            go_wp2_with fail
                            refine book32c ROW HB9 hpn rfl HCN HCY hW1 hW2 hne rfl rfl rfl rfl rfl rfl ?_
                            intro v w10 hv hb10
                            simp only [putAll, List.map_cons, List.map_nil, List.foldl_cons, List.foldl_nil, Act.put, List.setIfInBounds_toArray, List.set_cons_succ, List.set_cons_zero]
                            rw [hv]
                            have HB10 := Lib.hid hb10; clear hv hb10
                            go_wp2
                            go_ret
                            exact ⟨by rw [HE.out]; rfl, HAL.out _ (HB9.out.trans (HB10.out.mono HB9.out.size))⟩
                    · obtain rfl : n4 = j := by omega
                      have HLT : Hid (lensF (s.K * s.size) l en.list en.len = true) := Lib.hid (by
                        rw [HLj.out, List.drop_of_length_le (by have := HLN.out; omega), HMN.out, leftX_many hW1 hl0]; rfl)
                      have HA2 := Lib.hid (fun j' (hj' : j' < k + 1) => (show thingAt s l xs j' = true from by
                        by_cases e : j' = k
                        · rw [e, thingAt_head, HTH.out, ← HEN.out, HLT.out]; rfl
                        · exact HA.out j' (by omega)))
                      have HNX : Hid (namedTo xs (k + 1) = namedTo xs k ++ en.list.take n4) := Lib.hid (by rw [namedTo_succ (by have := HL1.out; omega), ← HEN.out, List.take_of_length_le (by have := HLN.out; omega)])
                      have y3 := (cell_of_row _ _ 3 _ _ _ HRj.out).trans (show _ = some (.slice A4 n4 c4 : Value) from rfl)
                      go_wp2
                      exact ⟨⟨k + 1, by omega, by go_num, HBj, by rw [HNX.out]; exact HOj, HA2, by rw [HNX.out]; exact HNj⟩, by simp [intOf]; omega⟩
            · obtain rfl : n1 = k := by omega
              have HR4 : Hid (R = tagsOk gs) := Lib.hid (by rw [HR3.out, thingsOk_all (fun j hj => HA.out j (by have := HL1.out; omega)) (by rw [HL1.out]; exact HND.out), decide_eq_true (by have := HL1.out; omega)]; rfl)
              clear HA HND HO HR3
              obtain ⟨r0, r1⟩ := ROW.out wo HB.out
              have b11 := (cell_of_row _ _ 1 _ _ _ r1).trans (show _ = some (.slice _ n1 c1 : Value) from rfl)
              clear r0 r1
              go_wp2_with fail
              clear b11
              go_loopw [16] (fun iv wr => ∃ i : Nat, i ≤ n2 ∧ iv = .int .i64 i ∧ Hid (Below W0.heap.size W0 wr) ∧ Hid (∀ j, j < i → tagAt gs j = true)) (fun iv _ => n2 - (intOf iv).toNat)
              case atStart => exact ⟨0, Nat.zero_le _, rfl, HB, Lib.hid (fun j hj => by omega)⟩
              case round =>
                clear HB
                obtain ⟨k, hk, rfl, HB, HA⟩ := hrel
                by_cases hlt : k < n2
                · obtain ⟨bG, oG, eG, _, hbG, so1, so2, u0, u1, _⟩ := (HG.out W0 (HAL.out _ (Below.refl _ _))).tag_at hlt
                  have hp : 0 < k → W0.cell? ⟨bG, oG + (k - 1) * 2, none⟩ = some (.string (gs.getD (k - 1) default).name) := fun h0 => by
                    obtain ⟨b', off', e, _, _, _, _, hd, _⟩ := (HG.out W0 (HAL.out _ (Below.refl _ _))).tag_at (k := k - 1) (by omega)
                    rw [eG] at e
                    injection e with e; injection e with e1 e2 _; subst e1; subst e2
                    exact hd
                  subst eG
                  obtain ⟨pn, hpn⟩ : ∃ y, y = (gs.getD (k - 1) default).name := ⟨_, rfl⟩
                  rw [← hpn] at hp
                  have hat : tagAt gs k = (decide (1 ≤ (gs.getD k default).name.size ∧ (gs.getD k default).name.size ≤ 40 ∧ (gs.getD k default).digest.size = 32) && (decide (k = 0) || strLt pn (gs.getD k default).name)) := by rw [hpn]; rfl
                  obtain ⟨x, hx⟩ : ∃ x, x = gs.getD k default := ⟨_, rfl⟩
                  rw [← hx] at hat u0 u1
                  have HUG := Lib.hid (fun V (hV : Below W0.heap.size W0 V) => And.intro ((hV.cell (p := ⟨bG, oG + k * 2, none⟩) hbG).trans u0) ((hV.cell (p := ⟨bG, oG + k * 2 + 1, none⟩) hbG).trans u1))
                  have HAT := Lib.hid hat
                  have HAX : Hid (tagAt gs k = false → R = false) := Lib.hid (fun h => by rw [HR4.out]; exact tagsOk_bad (k := k) (by have := HL2.out; omega) h)
                  have HAOK : Hid (tagAt gs k = true → ∀ j, j < k + 1 → tagAt gs j = true) := Lib.hid (fun h j hj => by
                    by_cases e : j = k
                    · rw [e]; exact h
                    · exact HA.out j (by omega))
                  clear hat hx hpn u0 u1 so1 so2
                  obtain ⟨r0, r1⟩ := ROW.out wr HB.out
                  have b12 := (cell_of_row _ _ 2 _ _ _ r1).trans (show _ = some (.slice _ n2 c2 : Value) from rfl)
                  clear r0 r1
                  go_wp2_with fail
                  clear b12
                  refine book39 ROW hlt hn40 HB rfl hbG hp HUG HAT rfl rfl rfl ?_
                  intro v w9 hv hb9
                  simp only [putAll, List.map_cons, List.map_nil, List.foldl_cons, List.foldl_nil, Act.put, List.setIfInBounds_toArray, List.set_cons_succ, List.set_cons_zero]
                  rw [hv]
                  have HB8 := Lib.hid (HB.out.trans (hb9.mono HB.out.size))
                  clear hv hb9 HB hp HUG
                  obtain ⟨tt, htt⟩ : ∃ tt, tt = tagAt gs k := ⟨_, rfl⟩
                  rw [← htt]
                  cases tt with
                  | false =>
                    have HE := Lib.hid (HAX.out htt.symm)
                    clear htt
                    go_wp2
                    go_ret
                    exact ⟨by rw [HE.out]; rfl, HAL.out _ HB8.out⟩
                  | true =>
                    have HA2 := Lib.hid (HAOK.out htt.symm)
                    clear htt
                    go_wp2
                    exact ⟨⟨k + 1, by omega, by go_num, HB8, HA2⟩, by simp [intOf]; omega⟩
                · obtain rfl : n2 = k := by omega
                  have HE : Hid (R = true) := Lib.hid (by rw [HR4.out, tagsOk_all (fun j hj => HA.out j (by have := HL2.out; omega)), decide_eq_true (by have := HL2.out; omega)])
                  obtain ⟨r0, r1⟩ := ROW.out wr HB.out
                  have b12 := (cell_of_row _ _ 2 _ _ _ r1).trans (show _ = some (.slice _ n2 c2 : Value) from rfl)
                  clear r0 r1
                  go_wp2
                  go_ret
                  exact ⟨by rw [HE.out]; rfl, HAL.out _ HB.out⟩
theorem refBook_c {tg tg0 tg1 tg2 : Bool} {S : Nat → Prop} {w : World} {A0 A1 A2 : Option Addr} {n0 c0 n1 c1 n2 c2 : Nat} {s : Shape} {b : Book} (hf : Few b) (h : BookR w S tg tg0 tg1 tg2 A0 n0 c0 A1 n1 c1 A2 n2 c2 b) :
    Calls Try.prog 11 #[.agg #[.int .i64 s.K, .int .i64 s.M, .int .i64 s.size], .agg #[.slice A0 n0 c0, .slice A1 n1 c1, .slice A2 n2 c2, .int .i64 b.next]] w (RetV (.bool (bookOk s b)) w) :=
  refBook_i (by have := hf.st; have := h.st.len; omega) hf.sl h.st h.th h.ta
end Go.Proofs.Ytjeecdoffoahkaa
