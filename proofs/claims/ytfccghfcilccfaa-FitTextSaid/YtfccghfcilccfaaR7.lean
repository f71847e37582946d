/- fit.Text: the slots of a text's stripes, and what is left. -/
import Derived.Test.YtfccghfcilccfaaR5
import Derived.Test.YtfccghfcilccfaaT1
namespace Go.Proofs.Ytfccghfcilccfaa
open Go.RowKit Go.Silo

/-- What Text answers. -/
noncomputable def textR (s : Shape) (x : SlotsD) (n : Int) : List (List Slot) × SlotsD × Int :=
  if shapeOk s = true ∧ slotsOkB x = true ∧ 0 ≤ n ∧ n ≤ 2000 then
    (if (layR x (s.K + s.M).toNat (manyX s n)).2 = 0 then ((layR x (s.K + s.M).toNat (manyX s n)).1, turnsX x (s.K + s.M).toNat (manyX s n), 0) else ([], ⟨[], []⟩, (layR x (s.K + s.M).toNat (manyX s n)).2))
  else ([], ⟨[], []⟩, 1)
theorem textR_bad {s : Shape} {x : SlotsD} {n : Int} (h : ¬ (shapeOk s = true ∧ slotsOkB x = true ∧ 0 ≤ n ∧ n ≤ 2000)) : textR s x n = ([], ⟨[], []⟩, 1) := by unfold textR; rw [if_neg h]
theorem textR_err {s : Shape} {x : SlotsD} {n : Int} (h : shapeOk s = true ∧ slotsOkB x = true ∧ 0 ≤ n ∧ n ≤ 2000) (he : (layR x (s.K + s.M).toNat (manyX s n)).2 ≠ 0) : textR s x n = ([], ⟨[], []⟩, (layR x (s.K + s.M).toNat (manyX s n)).2) := by unfold textR; rw [if_pos h, if_neg he]
theorem textR_ok {s : Shape} {x : SlotsD} {n : Int} (h : shapeOk s = true ∧ slotsOkB x = true ∧ 0 ≤ n ∧ n ≤ 2000) (he : (layR x (s.K + s.M).toNat (manyX s n)).2 = 0) : textR s x n = ((layR x (s.K + s.M).toNat (manyX s n)).1, turnsX x (s.K + s.M).toNat (manyX s n), 0) := by unfold textR; rw [if_pos h, if_pos he]

/-- Three results: lists of slots, slots, a number. -/
def RetLLSE (w : World) (r : List (List Slot) × SlotsD × Int) (e : Ending) (w' : World) : Prop :=
  ∃ A n c A0 n0 c0 A1 n1 c1, e = .returned (.tuple #[.slice A n c, .agg #[.slice A0 n0 c0, .slice A1 n1 c1], .int .i64 r.2.2]) ∧ Sl true 71 (slE true 104 slotE) w' (fun b => w.heap.size ≤ b) A n c r.1 ∧
    Sl true 4 boolE w' (fun b => w.heap.size ≤ b) A0 n0 c0 r.2.1.live ∧ Sl true 52 (slE true 3 intE) w' (fun b => w.heap.size ≤ b) A1 n1 c1 r.2.1.free ∧ Below w.heap.size w w'
theorem RetLLSE.bad {w w' : World} {R : List (List Slot) × SlotsD × Int} {e : Int} (h : R = ([], ⟨[], []⟩, e)) (hb : Below w.heap.size w w') : RetLLSE w R (.returned (.tuple #[.slice none 0 0, .agg #[.slice none 0 0, .slice none 0 0], .int .i64 e])) w' := by
  subst h
  exact ⟨_, _, _, _, _, _, _, _, _, rfl, Sl.nil_ (by decide), Sl.nil_ (by decide), Sl.nil_ (by decide), hb⟩

/-- As RetLLSE; and no two rows lie in one block. -/
def RetLLSA (w : World) (r : List (List Slot) × SlotsD × Int) (e : Ending) (w' : World) : Prop :=
  ∃ A n c A0 n0 c0 A1 n1 c1, e = .returned (.tuple #[.slice A n c, .agg #[.slice A0 n0 c0, .slice A1 n1 c1], .int .i64 r.2.2]) ∧ (∃ bs : List Nat, bs.Nodup ∧ bs.length = r.1.length ∧ Sl true 71 (rowE 104) w' (fun b => w.heap.size ≤ b) A n c (r.1.zip bs)) ∧
    Sl true 4 boolE w' (fun b => w.heap.size ≤ b) A0 n0 c0 r.2.1.live ∧ Sl true 52 (slE true 3 intE) w' (fun b => w.heap.size ≤ b) A1 n1 c1 r.2.1.free ∧ Below w.heap.size w w'
theorem RetLLSA.bad {w w' : World} {R : List (List Slot) × SlotsD × Int} {e : Int} (h : R = ([], ⟨[], []⟩, e)) (hb : Below w.heap.size w w') : RetLLSA w R (.returned (.tuple #[.slice none 0 0, .agg #[.slice none 0 0, .slice none 0 0], .int .i64 e])) w' := by
  subst h
  exact ⟨_, _, _, _, _, _, _, _, _, rfl, ⟨[], by simp, rfl, Sl.nil_ (by decide)⟩, Sl.nil_ (by decide), Sl.nil_ (by decide), hb⟩
theorem RetLLSA.plain {w w' : World} {r : List (List Slot) × SlotsD × Int} {e : Ending} (h : RetLLSA w r e w') : RetLLSE w r e w' := by
  obtain ⟨A, n, c, A0, n0, c0, A1, n1, c1, e, ⟨bs, _, hl, hs⟩, h0, h1, hb⟩ := h
  exact ⟨A, n, c, A0, n0, c0, A1, n1, c1, e, hs.rows hl, h0, h1, hb⟩

set_option maxRecDepth 100000 in
set_option maxHeartbeats 4000000 in
theorem TextA_c {tg : Bool} {S : Nat → Prop} {w : World} {A0 A1 : Option Addr} {n0 c0 n1 c1 : Nat} {s : Shape} {x : SlotsD} {n : Int} (_ : I64 n)
    (h0 : Sl tg 4 boolE w S A0 n0 c0 x.live) (h1 : Sl tg 52 (slE tg 3 intE) w S A1 n1 c1 x.free) :
    Calls Try.prog 36 #[.agg #[.int .i64 s.K, .int .i64 s.M, .int .i64 s.size], .agg #[.slice A0 n0 c0, .slice A1 n1 c1], .int .i64 n] w (RetLLSA w (textR s x n)) := by
  have HL0 := Lib.hid h0.len
  have HL1 := Lib.hid h1.len
  have HSM := Lib.hid (fun W (hW : Below w.heap.size w W) => slotsMay_c (w := W) (h0.all hW) (h1.all hW))
  have bad := @textR_bad s x n
  have err := @textR_err s x n
  have ok := @textR_ok s x n
  have hok := @slotsOk_of x
  generalize hr : slotsOkB x = r at *
  have HR := Lib.hid hr; clear hr
  obtain ⟨q, hq⟩ : ∃ q, q = shapeOk s := ⟨_, rfl⟩
  have HQ := Lib.hid hq
  rw [← hq] at bad err ok
  clear hq
  generalize hR : textR s x n = R at *
  clear hR
  have HB := Lib.hid bad; clear bad
  have HE := Lib.hid err; clear err
  have HO := Lib.hid ok; clear ok
  have HK := Lib.hid hok; clear hok
  go_enter Try.func36, Try.ntmps36
  go_wp2_with fail
  refine codeMay_c.mono ?_
  rintro e w1 ⟨rfl, hb1⟩
  rw [← HQ.out]
  (obtain ⟨hc_w1, hf_w1⟩ := bcell hb1; have z_w1_0 : w.heap.size < w1.heap.size := (by have := hb1.size; first | omega | (simp at this; omega)); have z_w1_1 : w.heap.size + 1 < w1.heap.size := (by have := hb1.size; first | omega | (simp at this; omega)); have z_w1_2 : w.heap.size + 1 + 1 < w1.heap.size := (by have := hb1.size; first | omega | (simp at this; omega)))
  cases q with
  | false =>
    have HRR : Hid (R = ([], ⟨[], []⟩, 1)) := Lib.hid (HB.out (fun h => by cases h.1))
    go_wp2
    go_region
    go_wp2
    refine bodyPost_ret (v := .tuple #[.slice none 0 0, .agg #[.slice none 0 0, .slice none 0 0], .int .i64 1]) (by simp [results, Try.results36, go_sem, *]; done) rfl ?_
    exact RetLLSA.bad HRR.out (by repeat' (first | (with_reducible exact Below.refl _ _) | (with_reducible refine Below.alloc ?_ ?_ _) | (with_reducible refine Below.drew ?_) | (with_reducible refine below_drewN ?_ _) | (with_reducible refine Below.setCell ?_ ?_ _) | (refine via ?_ (by with_reducible assumption) ?_) | (refine via ?_ (below_ext _ _) ?_) | go_size))
  | true =>
    go_wp2_with fail
    refine (HSM.out _ (by repeat' (first | (with_reducible exact Below.refl _ _) | (with_reducible refine Below.alloc ?_ ?_ _) | (with_reducible refine Below.drew ?_) | (with_reducible refine below_drewN ?_ _) | (with_reducible refine Below.setCell ?_ ?_ _) | (refine via ?_ (by with_reducible assumption) ?_) | (refine via ?_ (below_ext _ _) ?_) | go_size))).mono ?_
    rintro e w2 ⟨rfl, hb2⟩
    (obtain ⟨hc_w2, hf_w2⟩ := bcell hb2; have z_w2_0 : w.heap.size < w2.heap.size := (by have := hb2.size; first | omega | (simp at this; omega)); have z_w2_1 : w.heap.size + 1 < w2.heap.size := (by have := hb2.size; first | omega | (simp at this; omega)); have z_w2_2 : w.heap.size + 1 + 1 < w2.heap.size := (by have := hb2.size; first | omega | (simp at this; omega)))
    cases r with
    | false =>
      have HRR : Hid (R = ([], ⟨[], []⟩, 1)) := Lib.hid (HB.out (fun h => by cases h.2.1))
      go_wp2
      go_region
      go_wp2
      refine bodyPost_ret (v := .tuple #[.slice none 0 0, .agg #[.slice none 0 0, .slice none 0 0], .int .i64 1]) (by simp [results, Try.results36, go_sem, *]; done) rfl ?_
      exact RetLLSA.bad HRR.out (by repeat' (first | (with_reducible exact Below.refl _ _) | (with_reducible refine Below.alloc ?_ ?_ _) | (with_reducible refine Below.drew ?_) | (with_reducible refine below_drewN ?_ _) | (with_reducible refine Below.setCell ?_ ?_ _) | (refine via ?_ (by with_reducible assumption) ?_) | (refine via ?_ (below_ext _ _) ?_) | go_size))
    | true =>
      by_cases hn : 0 ≤ n ∧ n ≤ 2000
      · obtain ⟨hn1, hn2⟩ := hn
        have hx := HK.out rfl
        have hx2 := hx.most
        have hx3 := hx.same
        have e0 := HL0.out
        have e1 := HL1.out
        have hn0' : n0 ≤ 12 := by omega
        have hn1' : n1 = n0 := by omega
        have HF : Hid (∀ l ∈ x.free, l.length ≤ 100000000) := Lib.hid (fun l hl => by have := pigeon (hx.free l hl); omega)
        clear hx hx2 hx3 e0 e1
        subst hn1'
        go_wp2_with fail
        refine (Own_c (h0.all (by repeat' (first | (with_reducible exact Below.refl _ _) | (with_reducible refine Below.alloc ?_ ?_ _) | (with_reducible refine Below.drew ?_) | (with_reducible refine below_drewN ?_ _) | (with_reducible refine Below.setCell ?_ ?_ _) | (refine via ?_ (by with_reducible assumption) ?_) | (refine via ?_ (below_ext _ _) ?_) | go_size))) (h1.all (by repeat' (first | (with_reducible exact Below.refl _ _) | (with_reducible refine Below.alloc ?_ ?_ _) | (with_reducible refine Below.drew ?_) | (with_reducible refine below_drewN ?_ _) | (with_reducible refine Below.setCell ?_ ?_ _) | (refine via ?_ (by with_reducible assumption) ?_) | (refine via ?_ (below_ext _ _) ?_) | go_size))) (by omega) (by omega) HF.out).mono ?_
        rintro e w3 ⟨vs, rfl, ⟨A3, n3, c3, A4, n4, c4, rfl, _, hs0, hs1⟩, hb3⟩
        obtain rfl : n3 = n1 := by have := hs0.len; have := HL0.out; omega
        obtain rfl : n4 = n3 := by have := hs1.len; have := HL1.out; omega
        (obtain ⟨hc_w3, hf_w3⟩ := bcell hb3; have z_w3_0 : w.heap.size < w3.heap.size := (by have := hb3.size; first | omega | (simp at this; omega)); have z_w3_1 : w.heap.size + 1 < w3.heap.size := (by have := hb3.size; first | omega | (simp at this; omega)); have z_w3_2 : w.heap.size + 1 + 1 < w3.heap.size := (by have := hb3.size; first | omega | (simp at this; omega)))
        go_wp2_with fail
        have hw3 : w3.heap[w.heap.size + 1]? = some (.cells #[.slice A0 n4 c0, .slice A1 n4 c1] 62 (0, 0)) := by
          rw [hb3.block _ z_w2_1, hb2.block _ z_w1_1, hb1.block _ (by simp), Below.heap_alloc _ _ _ (by simp)]
          have := World.alloc_heap_new (w.alloc (.cells #[.int .i64 s.K, .int .i64 s.M, .int .i64 s.size] 23)) (.cells #[.slice A0 n4 c0, .slice A1 n4 c1] 62)
          rwa [World.size_alloc] at this
        have hr3 : w3.heap[w.heap.size + 1 + 1]? = some (.cells #[.slice none 0 0, .slice none 0 0] 62 (0, 0)) := by
          rw [hb3.block _ z_w2_2, hb2.block _ z_w1_2, hb1.block _ (by simp)]
          have := World.alloc_heap_new ((w.alloc (.cells #[.int .i64 s.K, .int .i64 s.M, .int .i64 s.size] 23)).alloc (.cells #[.slice A0 n4 c0, .slice A1 n4 c1] 62)) (.cells #[.slice none 0 0, .slice none 0 0] 62)
          rwa [World.size_alloc, World.size_alloc] at this
        have hW := row_set2 (u := .slice A3 n4 c3) (v := .slice A4 n4 c4) hw3
        have hWr : ((w3.setCell ⟨w.heap.size + 1, 0, none⟩ (.slice A3 n4 c3)).setCell ⟨w.heap.size + 1, 1, none⟩ (.slice A4 n4 c4)).heap[w.heap.size + 1 + 1]? = some (.cells #[.slice none 0 0, .slice none 0 0] 62 (0, 0)) := (Below.heap_setCell _ _ _ _ (by simp)).trans ((Below.heap_setCell _ _ _ _ (by simp)).trans hr3)
        have hk : Keeps (fun b => w2.heap.size ≤ b) w3 ((w3.setCell ⟨w.heap.size + 1, 0, none⟩ (.slice A3 n4 c3)).setCell ⟨w.heap.size + 1, 1, none⟩ (.slice A4 n4 c4)) := (by repeat' (first | (with_reducible exact Keeps.refl _ _) | (with_reducible refine Keeps.alloc ?_ _) | (with_reducible refine Keeps.drew ?_) | (with_reducible refine Keeps.drewN ?_ _) | (with_reducible refine Keeps.setCell ?_ ?_ _) | (refine Keeps.call ?_ (by with_reducible assumption)) | (with_reducible refine Keeps.ext ?_ _) | (simp; done) | (simp; omega) | omega))
        have hwW : w2.heap.size ≤ ((w3.setCell ⟨w.heap.size + 1, 0, none⟩ (.slice A3 n4 c3)).setCell ⟨w.heap.size + 1, 1, none⟩ (.slice A4 n4 c4)).heap.size := by simpa using hb3.size
        have hBW : Below w.heap.size w ((w3.setCell ⟨w.heap.size + 1, 0, none⟩ (.slice A3 n4 c3)).setCell ⟨w.heap.size + 1, 1, none⟩ (.slice A4 n4 c4)) := (by repeat' (first | (with_reducible exact Below.refl _ _) | (with_reducible refine Below.alloc ?_ ?_ _) | (with_reducible refine Below.drew ?_) | (with_reducible refine below_drewN ?_ _) | (with_reducible refine Below.setCell ?_ ?_ _) | (refine via ?_ (by with_reducible assumption) ?_) | (refine via ?_ (below_ext _ _) ?_) | go_size))
        generalize ((w3.setCell ⟨w.heap.size + 1, 0, none⟩ (.slice A3 n4 c3)).setCell ⟨w.heap.size + 1, 1, none⟩ (.slice A4 n4 c4)) = W at *
        clear hc_w1 hc_w2 hc_w3 hf_w1 hf_w2 hf_w3 hw3 hr3
        have hXS : XS (fun b => w2.heap.size ≤ b ∧ b < W.heap.size) (w.heap.size + 1) A3 n4 c3 A4 n4 c4 x W := ⟨hW, (hs0.keep hk).mono (fun b hb hlt => ⟨hb, hlt⟩), (hs1.keep hk).mono (fun b hb hlt => ⟨hb, hlt⟩)⟩
        refine (Lay_c HQ.out.symm hn1 (by omega) hn0' rfl hXS (fun b hb => hb.2)).mono ?_
        rintro e w4 ⟨A, c, x', rfl, ⟨bs, hb1, hb2, hl⟩, hX, hxx, hT⟩
        have HBS := Lib.hid (And.intro hb1 hb2); clear hb1 hb2
        have HXX := Lib.hid hxx; clear hxx
        have HT := Lib.hid hT
        have HBW := Lib.hid hBW; clear hBW
        have hrow := (hT.heap hWr (by decide))
        have r0 := cell_of_row _ _ 0 _ _ _ hrow
        have r1 := cell_of_row _ _ 1 _ _ _ hrow
        have r2 := frozen_of_row _ _ 0 _ _ hrow
        have r3 := frozen_of_row _ _ 1 _ _ hrow
        have y0 := cell_of_row _ _ 0 _ _ _ hX.row
        have y1 := cell_of_row _ _ 1 _ _ _ hX.row
        have hzW : w.heap.size + 3 ≤ W.heap.size := by omega
        have hz4 := hT.size
        have hB4 : Below w.heap.size w w4 := HBW.out.trans ((hT.below (B := w.heap.size + 3) (by omega) (fun b hb => by have : w2.heap.size ≤ b := hb.1; omega)).mono (by omega))
        have HB4 := Lib.hid hB4; clear hB4 hT
        have HEE := Lib.hid (HE.out ⟨by trivial, by trivial, hn1, hn2⟩)
        have HOO := Lib.hid (HO.out ⟨by trivial, by trivial, hn1, hn2⟩)
        clear HE HO HB
        generalize layR x (s.K + s.M).toNat (manyX s n) = L at *
        obtain ⟨L1, er⟩ := L
        dsimp only at *
        by_cases he : er = 0
        · subst he
          have HRR : Hid (R = (L1, x', 0)) := Lib.hid (by rw [HOO.out rfl, HXX.out rfl])
          go_wp2
          go_region
          go_wp2
          refine bodyPost_ret (v := .tuple #[.slice A L1.length c, .agg #[.slice A3 n4 c3, .slice A4 n4 c4], .int .i64 0]) (by simp [results, Try.results36, go_sem, *]; done) rfl ?_
          rw [HRR.out]
          have hkk : Keeps (fun b => w.heap.size + 3 ≤ b) w4 ((w4.setCell ⟨w.heap.size + 1 + 1, 0, none⟩ (.slice A3 n4 c3)).setCell ⟨w.heap.size + 1 + 1, 1, none⟩ (.slice A4 n4 c4)).drew := (by repeat' (first | (with_reducible exact Keeps.refl _ _) | (with_reducible refine Keeps.alloc ?_ _) | (with_reducible refine Keeps.drew ?_) | (with_reducible refine Keeps.drewN ?_ _) | (with_reducible refine Keeps.setCell ?_ ?_ _) | (refine Keeps.call ?_ (by with_reducible assumption)) | (with_reducible refine Keeps.ext ?_ _) | (simp; done) | (simp; omega) | omega))
          refine ⟨_, _, _, _, _, _, _, _, _, rfl, ?_, ?_, ?_, ?_⟩
          · exact ⟨bs, HBS.out.1, HBS.out.2, ((hl.mono (S' := fun b => w.heap.size + 3 ≤ b) (fun b hb _ => by have : W.heap.size ≤ b := hb; show w.heap.size + 3 ≤ b; omega)).keep hkk).mono (fun b hb _ => by omega)⟩
          · exact ((hX.live.mono (S' := fun b => w.heap.size + 3 ≤ b) (fun b hb _ => by have : w2.heap.size ≤ b := hb.1; show w.heap.size + 3 ≤ b; omega)).keep hkk).mono (fun b hb _ => by omega)
          · exact ((hX.free.mono (S' := fun b => w.heap.size + 3 ≤ b) (fun b hb _ => by have : w2.heap.size ≤ b := hb.1; show w.heap.size + 3 ≤ b; omega)).keep hkk).mono (fun b hb _ => by omega)
          · have := HB4.out
            exact (by repeat' (first | (with_reducible exact Below.refl _ _) | (with_reducible refine Below.alloc ?_ ?_ _) | (with_reducible refine Below.drew ?_) | (with_reducible refine below_drewN ?_ _) | (with_reducible refine Below.setCell ?_ ?_ _) | (refine via ?_ (by with_reducible assumption) ?_) | (refine via ?_ (below_ext _ _) ?_) | go_size))
        · have HRR : Hid (R = ([], ⟨[], []⟩, er)) := Lib.hid (HEE.out he)
          clear y0 y1
          go_wp2
          go_region
          go_wp2
          refine bodyPost_ret (v := .tuple #[.slice none 0 0, .agg #[.slice none 0 0, .slice none 0 0], .int .i64 er]) (by simp [results, Try.results36, go_sem, *]; done) rfl ?_
          exact RetLLSA.bad HRR.out (by
            have := HB4.out
            exact (by repeat' (first | (with_reducible exact Below.refl _ _) | (with_reducible refine Below.alloc ?_ ?_ _) | (with_reducible refine Below.drew ?_) | (with_reducible refine below_drewN ?_ _) | (with_reducible refine Below.setCell ?_ ?_ _) | (refine via ?_ (by with_reducible assumption) ?_) | (refine via ?_ (below_ext _ _) ?_) | go_size)))
      · have HRR : Hid (R = ([], ⟨[], []⟩, 1)) := Lib.hid (HB.out (fun h => hn h.2.2))
        rcases (by omega : n < 0 ∨ (0 ≤ n ∧ 2000 < n)) with h | ⟨h, h'⟩
        · go_wp2
          go_region
          go_wp2
          refine bodyPost_ret (v := .tuple #[.slice none 0 0, .agg #[.slice none 0 0, .slice none 0 0], .int .i64 1]) (by simp [results, Try.results36, go_sem, *]; done) rfl ?_
          exact RetLLSA.bad HRR.out (by repeat' (first | (with_reducible exact Below.refl _ _) | (with_reducible refine Below.alloc ?_ ?_ _) | (with_reducible refine Below.drew ?_) | (with_reducible refine below_drewN ?_ _) | (with_reducible refine Below.setCell ?_ ?_ _) | (refine via ?_ (by with_reducible assumption) ?_) | (refine via ?_ (below_ext _ _) ?_) | go_size))
        · go_wp2
          go_region
          go_wp2
          refine bodyPost_ret (v := .tuple #[.slice none 0 0, .agg #[.slice none 0 0, .slice none 0 0], .int .i64 1]) (by simp [results, Try.results36, go_sem, *]; done) rfl ?_
          exact RetLLSA.bad HRR.out (by repeat' (first | (with_reducible exact Below.refl _ _) | (with_reducible refine Below.alloc ?_ ?_ _) | (with_reducible refine Below.drew ?_) | (with_reducible refine below_drewN ?_ _) | (with_reducible refine Below.setCell ?_ ?_ _) | (refine via ?_ (by with_reducible assumption) ?_) | (refine via ?_ (below_ext _ _) ?_) | go_size))
theorem Text_c {tg : Bool} {S : Nat → Prop} {w : World} {A0 A1 : Option Addr} {n0 c0 n1 c1 : Nat} {s : Shape} {x : SlotsD} {n : Int} (hI : I64 n)
    (h0 : Sl tg 4 boolE w S A0 n0 c0 x.live) (h1 : Sl tg 52 (slE tg 3 intE) w S A1 n1 c1 x.free) :
    Calls Try.prog 36 #[.agg #[.int .i64 s.K, .int .i64 s.M, .int .i64 s.size], .agg #[.slice A0 n0 c0, .slice A1 n1 c1], .int .i64 n] w (RetLLSE w (textR s x n)) :=
  (TextA_c hI h0 h1).mono (fun _ _ h => h.plain)
end Go.Proofs.Ytfccghfcilccfaa
