/- slots.Take. -/
import Derived.Test.YtjeecdoffoahkaaS9
namespace Go.Proofs.Ytjeecdoffoahkaa
open Go.RowKit Go.Silo

/-- What Take answers. -/
noncomputable def takeR (x : SlotsD) (n : Int) (not : List Int) : List Slot × SlotsD × Int :=
  if slotsOkB x = true ∧ 1 ≤ n ∧ n ≤ 12 then (if takeErr x n.toNat not = 0 then (takeL x n.toNat not, takeX x n.toNat not, 0) else ([], ⟨[], []⟩, takeErr x n.toNat not)) else ([], ⟨[], []⟩, 1)
theorem takeR_bad {x : SlotsD} {n : Int} {not : List Int} (h : ¬ (slotsOkB x = true ∧ 1 ≤ n ∧ n ≤ 12)) : takeR x n not = ([], ⟨[], []⟩, 1) := by unfold takeR; rw [if_neg h]
theorem takeR_err {x : SlotsD} {n : Int} {not : List Int} (h : slotsOkB x = true ∧ 1 ≤ n ∧ n ≤ 12) (he : takeErr x n.toNat not ≠ 0) : takeR x n not = ([], ⟨[], []⟩, takeErr x n.toNat not) := by unfold takeR; rw [if_pos h, if_neg he]
theorem takeR_ok {x : SlotsD} {n : Int} {not : List Int} (h : slotsOkB x = true ∧ 1 ≤ n ∧ n ≤ 12) (he : takeErr x n.toNat not = 0) : takeR x n not = (takeL x n.toNat not, takeX x n.toNat not, 0) := by unfold takeR; rw [if_pos h, if_pos he]

theorem slotsOk_of {x : SlotsD} (h : slotsOkB x = true) : SlotsOk x := by unfold slotsOkB at h; exact @of_decide_eq_true _ (Classical.propDecidable _) h

/-- Three results: a list of slots, slots, a number. -/
def RetLSE (w : World) (r : List Slot × SlotsD × Int) (e : Ending) (w' : World) : Prop :=
  ∃ A n c A0 n0 c0 A1 n1 c1, e = .returned (.tuple #[.slice A n c, .agg #[.slice A0 n0 c0, .slice A1 n1 c1], .int .i64 r.2.2]) ∧ Sl true 112 slotE w' (fun b => w.heap.size ≤ b) A n c r.1 ∧
    Sl true 4 boolE w' (fun b => w.heap.size ≤ b) A0 n0 c0 r.2.1.live ∧ Sl true 52 (slE true 3 intE) w' (fun b => w.heap.size ≤ b) A1 n1 c1 r.2.1.free ∧ Below w.heap.size w w'

theorem row_set2 {w : World} {g : Nat} {a b u v : Value} {T : TypeId} (h : w.heap[g]? = some (.cells #[a, b] T (0, 0))) : ((w.setCell ⟨g, 0, none⟩ u).setCell ⟨g, 1, none⟩ v).heap[g]? = some (.cells #[u, v] T (0, 0)) := by
  simp [World.setCell, Array.getElem?_modify, h]
/-- Behind a structure's store into a box. -/
theorem box_stored {w : World} {g : Nat} {a b u v : Value} {T : TypeId} (h : w.heap[g]? = some (.cells #[a, b] T (0, 0))) :
    let W := (w.setCell ⟨g, 0, none⟩ u).setCell ⟨g, 1, none⟩ v
    W.heap[g]? = some (.cells #[u, v] T (0, 0)) ∧ W.cell? ⟨g, 0, none⟩ = some u ∧ W.cell? ⟨g, 1, none⟩ = some v ∧ (∀ b o, b ≠ g → W.cell? ⟨b, o, none⟩ = w.cell? ⟨b, o, none⟩) ∧ (∀ p, W.frozen? p = w.frozen? p) := by
  intro W
  have h2 := row_set2 (u := u) (v := v) h
  refine ⟨h2, by rw [cell_of_row W g 0 _ _ _ h2]; rfl, by rw [cell_of_row W g 1 _ _ _ h2]; rfl, fun b o hb => ?_, fun p => ?_⟩
  · exact (World.cell?_setCell_other _ _ _ _ (by simp)).trans (World.cell?_setCell_other _ _ _ _ (by simp))
  · exact (World.frozen?_setCell _ _ _ _).trans (World.frozen?_setCell _ _ _ _)
theorem RetLSE.bad {w w' : World} {R : List Slot × SlotsD × Int} {e : Int} (h : R = ([], ⟨[], []⟩, e)) (hb : Below w.heap.size w w') : RetLSE w R (.returned (.tuple #[.slice none 0 0, .agg #[.slice none 0 0, .slice none 0 0], .int .i64 e])) w' := by
  subst h
  exact ⟨_, _, _, _, _, _, _, _, _, rfl, Sl.nil_ (by decide), Sl.nil_ (by decide), Sl.nil_ (by decide), hb⟩

set_option maxRecDepth 100000 in
set_option maxHeartbeats 4000000 in
theorem Take_c {tg tg2 : Bool} {T : TypeId} {S S2 : Nat → Prop} {w : World} {A0 A1 A2 : Option Addr} {n0 c0 n1 c1 n2 c2 : Nat} {x : SlotsD} {not : List Int} {n : Int} (hI : I64 n)
    (h0 : Sl tg 4 boolE w S A0 n0 c0 x.live) (h1 : Sl tg 52 (slE tg 3 intE) w S A1 n1 c1 x.free) (h2 : Sl tg2 T intE w S2 A2 n2 c2 not) :
    Calls Try.prog 101 #[.agg #[.slice A0 n0 c0, .slice A1 n1 c1], .int .i64 n, .slice A2 n2 c2] w (RetLSE w (takeR x n not)) := by
  have HL0 := Lib.hid h0.len
  have HL1 := Lib.hid h1.len
  have bad := @takeR_bad x n not
  have err := @takeR_err x n not
  have ok := @takeR_ok x n not
  have hok := @slotsOk_of x
  generalize hr : slotsOkB x = r at *
  have HR := Lib.hid hr; clear hr
  generalize hR : takeR x n not = R at *
  clear hR
  have HB := Lib.hid bad; clear bad
  have HE := Lib.hid err; clear err
  have HO := Lib.hid ok; clear ok
  have HK := Lib.hid hok; clear hok
  go_enter Try.func101, Try.ntmps101
  go_wp2_with fail
  refine (slotsMay_c (h0.all (by repeat' (first | (with_reducible exact Below.refl _ _) | (with_reducible refine Below.alloc ?_ ?_ _) | (with_reducible refine Below.drew ?_) | (with_reducible refine below_drewN ?_ _) | (with_reducible refine Below.setCell ?_ ?_ _) | (refine via ?_ (by with_reducible assumption) ?_) | (refine via ?_ (below_ext _ _) ?_) | go_size))) (h1.all (by repeat' (first | (with_reducible exact Below.refl _ _) | (with_reducible refine Below.alloc ?_ ?_ _) | (with_reducible refine Below.drew ?_) | (with_reducible refine below_drewN ?_ _) | (with_reducible refine Below.setCell ?_ ?_ _) | (refine via ?_ (by with_reducible assumption) ?_) | (refine via ?_ (below_ext _ _) ?_) | go_size)))).mono ?_
  rintro e w1 ⟨rfl, hb1⟩
  rw [HR.out]
  (obtain ⟨hc_w1, hf_w1⟩ := bcell hb1; have z_w1_0 : w.heap.size < w1.heap.size := (by have := hb1.size; first | omega | (simp at this; omega)); have z_w1_1 : w.heap.size + 1 < w1.heap.size := (by have := hb1.size; first | omega | (simp at this; omega)))
  have hbad : r = false ∨ ¬ (1 ≤ n ∧ n ≤ 12) → R = ([], ⟨[], []⟩, 1) := fun h => HB.out (h.elim (fun h h2 => by rw [h] at h2; cases h2.1) (fun h h2 => h h2.2))
  have HBAD := Lib.hid hbad; clear hbad
  clear HB
  cases r with
  | false =>
    have HRR : Hid (R = ([], ⟨[], []⟩, 1)) := Lib.hid (HBAD.out (.inl rfl))
    go_wp2
    go_region
    go_wp2
    refine bodyPost_ret (v := .tuple #[.slice none 0 0, .agg #[.slice none 0 0, .slice none 0 0], .int .i64 1]) (by simp [results, Try.results101, go_sem, *]; done) rfl ?_
    exact RetLSE.bad HRR.out (by repeat' (first | (with_reducible exact Below.refl _ _) | (with_reducible refine Below.alloc ?_ ?_ _) | (with_reducible refine Below.drew ?_) | (with_reducible refine below_drewN ?_ _) | (with_reducible refine Below.setCell ?_ ?_ _) | (refine via ?_ (by with_reducible assumption) ?_) | (refine via ?_ (below_ext _ _) ?_) | go_size))
  | true =>
    by_cases hn : 1 ≤ n ∧ n ≤ 12
    · obtain ⟨hn1, hn2⟩ := hn
      obtain ⟨n, rfl⟩ := Int.eq_ofNat_of_zero_le (show 0 ≤ n by omega)
      have hx := HK.out rfl
      have hx1 := hx.one
      have hx2 := hx.most
      have hx3 := hx.same
      have e0 := HL0.out
      have e1 := HL1.out
      have hn0' : n0 ≤ 12 := by omega
      have hn1' : n1 = n0 := by omega
      have HF : Hid (∀ l ∈ x.free, l.length ≤ 100000000) := Lib.hid (fun l hl => by have := pigeon (hx.free l hl); omega)
      clear hx hx1 hx2 hx3 e0 e1
      subst hn1'
      go_wp2_with fail
      refine (Own_c (h0.all (by repeat' (first | (with_reducible exact Below.refl _ _) | (with_reducible refine Below.alloc ?_ ?_ _) | (with_reducible refine Below.drew ?_) | (with_reducible refine below_drewN ?_ _) | (with_reducible refine Below.setCell ?_ ?_ _) | (refine via ?_ (by with_reducible assumption) ?_) | (refine via ?_ (below_ext _ _) ?_) | go_size))) (h1.all (by repeat' (first | (with_reducible exact Below.refl _ _) | (with_reducible refine Below.alloc ?_ ?_ _) | (with_reducible refine Below.drew ?_) | (with_reducible refine below_drewN ?_ _) | (with_reducible refine Below.setCell ?_ ?_ _) | (refine via ?_ (by with_reducible assumption) ?_) | (refine via ?_ (below_ext _ _) ?_) | go_size))) (by omega) (by omega) HF.out).mono ?_
      rintro e w2 ⟨vs, rfl, ⟨A3, n3, c3, A4, n4, c4, rfl, _, hs0, hs1⟩, hb2⟩
      (obtain ⟨hc_w2, hf_w2⟩ := bcell hb2; have z_w2_0 : w.heap.size < w2.heap.size := (by have := hb2.size; first | omega | (simp at this; omega)); have z_w2_1 : w.heap.size + 1 < w2.heap.size := (by have := hb2.size; first | omega | (simp at this; omega)))
      go_wp2_with fail
      have hw2 : w2.heap[w.heap.size]? = some (.cells #[.slice A0 n1 c0, .slice A1 n1 c1] 62 (0, 0)) := by
        rw [hb2.block _ z_w1_0, hb1.block _ (by simp; omega), Below.heap_alloc _ _ _ (by simp)]
        exact heap_alloc_new _ _
      have hW := row_set2 (u := .slice A3 n3 c3) (v := .slice A4 n4 c4) hw2
      have hk : Keeps (fun b => w1.heap.size ≤ b) w2 ((w2.setCell ⟨w.heap.size, 0, none⟩ (.slice A3 n3 c3)).setCell ⟨w.heap.size, 1, none⟩ (.slice A4 n4 c4)) := (by repeat' (first | (with_reducible exact Keeps.refl _ _) | (with_reducible refine Keeps.alloc ?_ _) | (with_reducible refine Keeps.drew ?_) | (with_reducible refine Keeps.drewN ?_ _) | (with_reducible refine Keeps.setCell ?_ ?_ _) | (refine Keeps.call ?_ (by with_reducible assumption)) | (with_reducible refine Keeps.ext ?_ _) | (simp; done) | (simp; omega) | omega))
      have hwW : w1.heap.size ≤ ((w2.setCell ⟨w.heap.size, 0, none⟩ (.slice A3 n3 c3)).setCell ⟨w.heap.size, 1, none⟩ (.slice A4 n4 c4)).heap.size := by simpa using hb2.size
      have hBW : Below w.heap.size w ((w2.setCell ⟨w.heap.size, 0, none⟩ (.slice A3 n3 c3)).setCell ⟨w.heap.size, 1, none⟩ (.slice A4 n4 c4)) := (by repeat' (first | (with_reducible exact Below.refl _ _) | (with_reducible refine Below.alloc ?_ ?_ _) | (with_reducible refine Below.drew ?_) | (with_reducible refine below_drewN ?_ _) | (with_reducible refine Below.setCell ?_ ?_ _) | (refine via ?_ (by with_reducible assumption) ?_) | (refine via ?_ (below_ext _ _) ?_) | go_size))
      have b0 : ((w2.setCell ⟨w.heap.size, 0, none⟩ (.slice A3 n3 c3)).setCell ⟨w.heap.size, 1, none⟩ (.slice A4 n4 c4)).cell? ⟨w.heap.size + 1, 0, none⟩ = some (.slice none 0 0) := ((World.cell?_setCell_other _ _ _ _ (by simp)).trans ((World.cell?_setCell_other _ _ _ _ (by simp)).trans ((hc_w2 _ _ z_w1_1).trans (hc_w1 (w.heap.size + 1) 0 (by simp))))).trans (by simp)
      have b1 : ((w2.setCell ⟨w.heap.size, 0, none⟩ (.slice A3 n3 c3)).setCell ⟨w.heap.size, 1, none⟩ (.slice A4 n4 c4)).cell? ⟨w.heap.size + 1, 1, none⟩ = some (.slice none 0 0) := ((World.cell?_setCell_other _ _ _ _ (by simp)).trans ((World.cell?_setCell_other _ _ _ _ (by simp)).trans ((hc_w2 _ _ z_w1_1).trans (hc_w1 (w.heap.size + 1) 1 (by simp))))).trans (by simp)
      have q0 : ((w2.setCell ⟨w.heap.size, 0, none⟩ (.slice A3 n3 c3)).setCell ⟨w.heap.size, 1, none⟩ (.slice A4 n4 c4)).frozen? ⟨w.heap.size + 1, 0, none⟩ = false := by rw [World.frozen?_setCell, World.frozen?_setCell, hf_w2 _ _ z_w1_1, hf_w1 (w.heap.size + 1) 0 (by simp)]; simp
      have q1 : ((w2.setCell ⟨w.heap.size, 0, none⟩ (.slice A3 n3 c3)).setCell ⟨w.heap.size, 1, none⟩ (.slice A4 n4 c4)).frozen? ⟨w.heap.size + 1, 1, none⟩ = false := by rw [World.frozen?_setCell, World.frozen?_setCell, hf_w2 _ _ z_w1_1, hf_w1 (w.heap.size + 1) 1 (by simp)]; simp
      generalize ((w2.setCell ⟨w.heap.size, 0, none⟩ (.slice A3 n3 c3)).setCell ⟨w.heap.size, 1, none⟩ (.slice A4 n4 c4)) = W at *
      clear hc_w1 hc_w2 hf_w1 hf_w2
      have hS0 := hs0.keep hk
      have hS1 := hs1.keep hk
      have hn3 := hs0.len
      have hn4 := hs1.len
      have hxs := HK.out (by trivial)
      refine (Some_c (n := n) hW hS0 hS1 (h2.all hBW) (by omega) (by have := hxs.most; omega) (by have := hxs.same; omega)).mono ?_
      rintro e w3 hpost
      clear hxs hn3 hn4
      have HBW := Lib.hid hBW; clear hBW
      rcases hpost with ⟨hne, rfl, hb3⟩ | ⟨heq, A5, c5, rfl, hl, hown, hfree, hT⟩
      · have HRR : Hid (R = ([], ⟨[], []⟩, takeErr x n not)) := Lib.hid (HE.out ⟨by trivial, hn1, hn2⟩ (by simpa using hne))
        have r0 := (hb3.cell (p := ⟨w.heap.size + 1, 0, none⟩) (show w.heap.size + 1 < W.heap.size by omega)).trans b0
        have r1 := (hb3.cell (p := ⟨w.heap.size + 1, 1, none⟩) (show w.heap.size + 1 < W.heap.size by omega)).trans b1
        have r2 := (hb3.frozen (p := ⟨w.heap.size + 1, 0, none⟩) (show w.heap.size + 1 < W.heap.size by omega)).trans q0
        have r3 := (hb3.frozen (p := ⟨w.heap.size + 1, 1, none⟩) (show w.heap.size + 1 < W.heap.size by omega)).trans q1
        generalize takeErr x n not = er at *
        clear b0 b1 q0 q1
        go_wp2
        go_region
        go_wp2
        refine bodyPost_ret (v := .tuple #[.slice none 0 0, .agg #[.slice none 0 0, .slice none 0 0], .int .i64 er]) (by simp [results, Try.results101, go_sem, *]; done) rfl ?_
        exact RetLSE.bad HRR.out (by
          have := HBW.out.trans (hb3.mono (by have := HBW.out.size; omega))
          exact (by repeat' (first | (with_reducible exact Below.refl _ _) | (with_reducible refine Below.alloc ?_ ?_ _) | (with_reducible refine Below.drew ?_) | (with_reducible refine below_drewN ?_ _) | (with_reducible refine Below.setCell ?_ ?_ _) | (refine via ?_ (by with_reducible assumption) ?_) | (refine via ?_ (below_ext _ _) ?_) | go_size)))
      · have HRR : Hid (R = (takeL x n not, takeX x n not, 0)) := Lib.hid (HO.out ⟨by trivial, hn1, hn2⟩ (by simpa using heq))
        have hout : ∀ b, b < w1.heap.size → b < W.heap.size → w3.heap[b]? = W.heap[b]? := fun b h1 h2 => hT.block b h2 (.inl (by show ¬ w1.heap.size ≤ b; omega))
        have y0 := (World.cell?_of_block (a := ⟨w.heap.size, 0, none⟩) (hout _ z_w1_0 (show w.heap.size < W.heap.size by omega))).trans (show W.cell? _ = some (.slice A3 n3 c3) by rw [cell_of_row W _ 0 _ _ _ hW]; rfl)
        have y1 := (World.cell?_of_block (a := ⟨w.heap.size, 1, none⟩) (hout _ z_w1_0 (show w.heap.size < W.heap.size by omega))).trans (show W.cell? _ = some (.slice A4 n4 c4) by rw [cell_of_row W _ 1 _ _ _ hW]; rfl)
        have r0 := (World.cell?_of_block (a := ⟨w.heap.size + 1, 0, none⟩) (hout _ z_w1_1 (show w.heap.size + 1 < W.heap.size by omega))).trans b0
        have r1 := (World.cell?_of_block (a := ⟨w.heap.size + 1, 1, none⟩) (hout _ z_w1_1 (show w.heap.size + 1 < W.heap.size by omega))).trans b1
        have r2 := (World.frozen?_of_block (a := ⟨w.heap.size + 1, 0, none⟩) (hout _ z_w1_1 (show w.heap.size + 1 < W.heap.size by omega))).trans q0
        have r3 := (World.frozen?_of_block (a := ⟨w.heap.size + 1, 1, none⟩) (hout _ z_w1_1 (show w.heap.size + 1 < W.heap.size by omega))).trans q1
        have hlive := hT.sl (boolE_avoids _) (by decide) hS0
        have hB3 := HBW.out.trans ((hT.below (B := w.heap.size + 2) (by omega) (fun b hb => by have : w1.heap.size ≤ b := hb; omega)).mono (by omega))
        have HB3 := Lib.hid hB3; clear hB3
        have HT := Lib.hid hT; clear hT
        have ho := hown.sl (tg := true)
        have hs3 := HT.out.size
        clear b0 b1 q0 q1 hout heq
        go_wp2
        go_region
        go_wp2
        refine bodyPost_ret (v := .tuple #[.slice A5 n c5, .agg #[.slice A3 n3 c3, .slice A4 n4 c4], .int .i64 0]) (by simp [results, Try.results101, go_sem, *]; done) rfl ?_
        rw [HRR.out]
        have hkk : Keeps (fun b => w.heap.size + 2 ≤ b) w3 ((w3.setCell ⟨w.heap.size + 1, 0, none⟩ (.slice A3 n3 c3)).setCell ⟨w.heap.size + 1, 1, none⟩ (.slice A4 n4 c4)).drew := (by repeat' (first | (with_reducible exact Keeps.refl _ _) | (with_reducible refine Keeps.alloc ?_ _) | (with_reducible refine Keeps.drew ?_) | (with_reducible refine Keeps.drewN ?_ _) | (with_reducible refine Keeps.setCell ?_ ?_ _) | (refine Keeps.call ?_ (by with_reducible assumption)) | (with_reducible refine Keeps.ext ?_ _) | (simp; done) | (simp; omega) | omega))
        refine ⟨_, _, _, _, _, _, _, _, _, rfl, ?_, ?_, ?_, ?_⟩
        · exact ((ho.mono (S' := fun b => w.heap.size + 2 ≤ b) (fun b hb _ => by have : W.heap.size ≤ b := hb.elim id id; show w.heap.size + 2 ≤ b; omega)).keep hkk).mono (fun b hb _ => by omega)
        · exact ((hlive.mono (S' := fun b => w.heap.size + 2 ≤ b) (fun b hb _ => by have : w1.heap.size ≤ b := hb; show w.heap.size + 2 ≤ b; omega)).keep hkk).mono (fun b hb _ => by omega)
        · exact ((hfree.mono (S' := fun b => w.heap.size + 2 ≤ b) (fun b hb _ => by have : w1.heap.size ≤ b := hb; show w.heap.size + 2 ≤ b; omega)).keep hkk).mono (fun b hb _ => by omega)
        · have := HB3.out
          exact (by repeat' (first | (with_reducible exact Below.refl _ _) | (with_reducible refine Below.alloc ?_ ?_ _) | (with_reducible refine Below.drew ?_) | (with_reducible refine below_drewN ?_ _) | (with_reducible refine Below.setCell ?_ ?_ _) | (refine via ?_ (by with_reducible assumption) ?_) | (refine via ?_ (below_ext _ _) ?_) | go_size))
    · have HRR : Hid (R = ([], ⟨[], []⟩, 1)) := Lib.hid (HBAD.out (.inr hn))
      rcases (by omega : n < 1 ∨ (1 ≤ n ∧ 12 < n)) with h | ⟨h, h'⟩
      · go_wp2
        go_region
        go_wp2
        refine bodyPost_ret (v := .tuple #[.slice none 0 0, .agg #[.slice none 0 0, .slice none 0 0], .int .i64 1]) (by simp [results, Try.results101, go_sem, *]; done) rfl ?_
        exact RetLSE.bad HRR.out (by repeat' (first | (with_reducible exact Below.refl _ _) | (with_reducible refine Below.alloc ?_ ?_ _) | (with_reducible refine Below.drew ?_) | (with_reducible refine below_drewN ?_ _) | (with_reducible refine Below.setCell ?_ ?_ _) | (refine via ?_ (by with_reducible assumption) ?_) | (refine via ?_ (below_ext _ _) ?_) | go_size))
      · go_wp2
        go_region
        go_wp2
        refine bodyPost_ret (v := .tuple #[.slice none 0 0, .agg #[.slice none 0 0, .slice none 0 0], .int .i64 1]) (by simp [results, Try.results101, go_sem, *]; done) rfl ?_
        exact RetLSE.bad HRR.out (by repeat' (first | (with_reducible exact Below.refl _ _) | (with_reducible refine Below.alloc ?_ ?_ _) | (with_reducible refine Below.drew ?_) | (with_reducible refine below_drewN ?_ _) | (with_reducible refine Below.setCell ?_ ?_ _) | (refine via ?_ (by with_reducible assumption) ?_) | (refine via ?_ (below_ext _ _) ?_) | go_size))
end Go.Proofs.Ytjeecdoffoahkaa
