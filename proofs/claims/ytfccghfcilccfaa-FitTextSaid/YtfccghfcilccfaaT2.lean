/- slots.Live. -/
import Derived.Test.YtfccghfcilccfaaT1
namespace Go.Proofs.Ytfccghfcilccfaa
open Go.RowKit Go.Silo

def liveX (x : SlotsD) (d : Nat) (is : Bool) (n : Nat) : SlotsD := ⟨x.live.set d is, if is = true ∧ x.live.getD d false = false then x.free.set d (upto n) else x.free⟩
theorem liveX_no {x : SlotsD} {d n : Nat} (h : x.live.getD d false = true) : liveX x d true n = ⟨x.live.set d true, x.free⟩ := by unfold liveX; rw [if_neg (by rw [h]; simp)]
theorem liveX_off {x : SlotsD} {d n : Nat} : liveX x d false n = ⟨x.live.set d false, x.free⟩ := by unfold liveX; rw [if_neg (by simp)]
theorem liveX_yes {x : SlotsD} {d n : Nat} (h : x.live.getD d false = false) : liveX x d true n = ⟨x.live.set d true, x.free.set d (upto n)⟩ := by unfold liveX; rw [if_pos ⟨rfl, h⟩]
/-- What Live answers. -/
noncomputable def liveR (x : SlotsD) (d : Int) (is : Bool) (n : Int) : SlotsD × Int :=
  if slotsOkB x = true ∧ 0 ≤ d ∧ d < x.live.length ∧ 0 ≤ n ∧ n ≤ 64 then (liveX x d.toNat is n.toNat, 0) else (⟨[], []⟩, 1)
theorem liveR_bad {x : SlotsD} {d : Int} {is : Bool} {n : Int} (h : ¬ (slotsOkB x = true ∧ 0 ≤ d ∧ d < x.live.length ∧ 0 ≤ n ∧ n ≤ 64)) : liveR x d is n = (⟨[], []⟩, 1) := by unfold liveR; rw [if_neg h]
theorem liveR_ok {x : SlotsD} {d : Int} {is : Bool} {n : Int} (h : slotsOkB x = true ∧ 0 ≤ d ∧ d < x.live.length ∧ 0 ≤ n ∧ n ≤ 64) : liveR x d is n = (liveX x d.toNat is n.toNat, 0) := by unfold liveR; rw [if_pos h]

/-- Two results: slots, a number. -/
def RetSE (w : World) (r : SlotsD × Int) (e : Ending) (w' : World) : Prop :=
  ∃ A0 n0 c0 A1 n1 c1, e = .returned (.tuple #[.agg #[.slice A0 n0 c0, .slice A1 n1 c1], .int .i64 r.2]) ∧
    Sl true 4 boolE w' (fun b => w.heap.size ≤ b) A0 n0 c0 r.1.live ∧ Sl true 52 (slE true 3 intE) w' (fun b => w.heap.size ≤ b) A1 n1 c1 r.1.free ∧ Below w.heap.size w w'
theorem RetSE.bad {w w' : World} {R : SlotsD × Int} {e : Int} (h : R = (⟨[], []⟩, e)) (hb : Below w.heap.size w w') : RetSE w R (.returned (.tuple #[.agg #[.slice none 0 0, .slice none 0 0], .int .i64 e])) w' := by
  subst h
  exact ⟨_, _, _, _, _, _, rfl, Sl.nil_ (by decide), Sl.nil_ (by decide), hb⟩

set_option maxRecDepth 100000 in
set_option maxHeartbeats 4000000 in
theorem Live_c {tg : Bool} {S : Nat → Prop} {w : World} {A0 A1 : Option Addr} {n0 c0 n1 c1 : Nat} {x : SlotsD} {d n : Int} {is : Bool} (hI : I64 n) (hId : I64 d)
    (h0 : Sl tg 4 boolE w S A0 n0 c0 x.live) (h1 : Sl tg 52 (slE tg 3 intE) w S A1 n1 c1 x.free) :
    Calls Try.prog 126 #[.agg #[.slice A0 n0 c0, .slice A1 n1 c1], .int .i64 d, .bool is, .int .i64 n] w (RetSE w (liveR x d is n)) := by
  have HL0 := Lib.hid h0.len
  have HL1 := Lib.hid h1.len
  have bad := @liveR_bad x d is n
  have ok := @liveR_ok x d is n
  have hok := @slotsOk_of x
  rw [h0.len] at bad ok
  generalize hr : slotsOkB x = r at *
  have HR := Lib.hid hr; clear hr
  generalize hR : liveR x d is n = R at *
  clear hR
  have hbad : r = false ∨ ¬ (0 ≤ d ∧ d < (n0 : Int) ∧ 0 ≤ n ∧ n ≤ 64) → R = (⟨[], []⟩, 1) := fun h => bad (h.elim (fun h h2 => by rw [h] at h2; cases h2.1) (fun h h2 => h h2.2))
  have HBAD := Lib.hid hbad; clear hbad bad
  have HO := Lib.hid ok; clear ok
  have HK := Lib.hid hok; clear hok
  go_enter Try.func126, Try.ntmps126
  go_wp2_with fail
  refine (slotsMay_c (h0.all (by repeat' (first | (with_reducible exact Below.refl _ _) | (with_reducible refine Below.alloc ?_ ?_ _) | (with_reducible refine Below.drew ?_) | (with_reducible refine below_drewN ?_ _) | (with_reducible refine Below.setCell ?_ ?_ _) | (refine via ?_ (by with_reducible assumption) ?_) | (refine via ?_ (below_ext _ _) ?_) | go_size))) (h1.all (by repeat' (first | (with_reducible exact Below.refl _ _) | (with_reducible refine Below.alloc ?_ ?_ _) | (with_reducible refine Below.drew ?_) | (with_reducible refine below_drewN ?_ _) | (with_reducible refine Below.setCell ?_ ?_ _) | (refine via ?_ (by with_reducible assumption) ?_) | (refine via ?_ (below_ext _ _) ?_) | go_size)))).mono ?_
  rintro e w1 ⟨rfl, hb1⟩
  rw [HR.out]
  (obtain ⟨hc_w1, hf_w1⟩ := bcell hb1; have z_w1_0 : w.heap.size < w1.heap.size := (by have := hb1.size; first | omega | (simp at this; omega)); have z_w1_1 : w.heap.size + 1 < w1.heap.size := (by have := hb1.size; first | omega | (simp at this; omega)))
  cases r with
  | false =>
    have HRR : Hid (R = (⟨[], []⟩, 1)) := Lib.hid (HBAD.out (.inl rfl))
    go_wp2
    refine bodyPost_ret (v := .tuple #[.agg #[.slice none 0 0, .slice none 0 0], .int .i64 1]) (by simp [results, Try.results126, go_sem, *]; done) rfl ?_
    exact RetSE.bad HRR.out (by repeat' (first | (with_reducible exact Below.refl _ _) | (with_reducible refine Below.alloc ?_ ?_ _) | (with_reducible refine Below.drew ?_) | (with_reducible refine below_drewN ?_ _) | (with_reducible refine Below.setCell ?_ ?_ _) | (refine via ?_ (by with_reducible assumption) ?_) | (refine via ?_ (below_ext _ _) ?_) | go_size))
  | true =>
    by_cases hn : 0 ≤ d ∧ d < (n0 : Int) ∧ 0 ≤ n ∧ n ≤ 64
    · have HRR : Hid (R = (liveX x d.toNat is n.toNat, 0)) := Lib.hid (HO.out ⟨rfl, hn⟩)
      obtain ⟨hd1, hd2, hn1, hn2⟩ := hn
      obtain ⟨n, rfl⟩ := Int.eq_ofNat_of_zero_le hn1
      obtain ⟨d, rfl⟩ := Int.eq_ofNat_of_zero_le hd1
      have hx := HK.out rfl
      have hx1 := hx.one
      have hx2 := hx.most
      have hx3 := hx.same
      have e0 := HL0.out
      have e1 := HL1.out
      have hn0' : n0 ≤ 12 := by omega
      have hn1' : n1 = n0 := by omega
      have hdn : d < n0 := by omega
      have HF : Hid (∀ l ∈ x.free, l.length ≤ 100000000) := Lib.hid (fun l hl => by have := pigeon (hx.free l hl); omega)
      clear hx hx1 hx2 hx3 e0 e1
      subst hn1'
      go_wp2_with fail
      refine (Own_c (h0.all (by repeat' (first | (with_reducible exact Below.refl _ _) | (with_reducible refine Below.alloc ?_ ?_ _) | (with_reducible refine Below.drew ?_) | (with_reducible refine below_drewN ?_ _) | (with_reducible refine Below.setCell ?_ ?_ _) | (refine via ?_ (by with_reducible assumption) ?_) | (refine via ?_ (below_ext _ _) ?_) | go_size))) (h1.all (by repeat' (first | (with_reducible exact Below.refl _ _) | (with_reducible refine Below.alloc ?_ ?_ _) | (with_reducible refine Below.drew ?_) | (with_reducible refine below_drewN ?_ _) | (with_reducible refine Below.setCell ?_ ?_ _) | (refine via ?_ (by with_reducible assumption) ?_) | (refine via ?_ (below_ext _ _) ?_) | go_size))) (by omega) (by omega) HF.out).mono ?_
      rintro e w2 ⟨vs, rfl, ⟨A3, n3, c3, A4, n4, c4, rfl, _, hs0, hs1⟩, hb2⟩
      (obtain ⟨hc_w2, hf_w2⟩ := bcell hb2; have z_w2_0 : w.heap.size < w2.heap.size := (by have := hb2.size; first | omega | (simp at this; omega)); have z_w2_1 : w.heap.size + 1 < w2.heap.size := (by have := hb2.size; first | omega | (simp at this; omega)))
      obtain rfl : n3 = n1 := by have := hs0.len; have := HL0.out; omega
      obtain rfl : n4 = n3 := by have := hs1.len; have := HL1.out; omega
      obtain ⟨b0, off0, rfl, hS0, hbl0, hc0, hf0⟩ := hs0.bool_at hdn
      obtain ⟨b1, off1, Aa, na, ca, rfl, hS1, hbl1, hla, hc1, hf1⟩ := hs1.sl_at hdn
      have hw2 : w2.heap[w.heap.size]? = some (.cells #[.slice A0 n4 c0, .slice A1 n4 c1] 62 (0, 0)) := by
        rw [hb2.block _ z_w1_0, hb1.block _ (by simp; omega), Below.heap_alloc _ _ _ (by simp)]
        exact heap_alloc_new _ _
      obtain ⟨hW, W0, W1, Wc, Wf⟩ := box_stored (u := .slice (some ⟨b0, off0, none⟩) n4 c3) (v := .slice (some ⟨b1, off1, none⟩) n4 c4) hw2
      have hk : Keeps (fun b => w1.heap.size ≤ b) w2 ((w2.setCell ⟨w.heap.size, 0, none⟩ (.slice (some ⟨b0, off0, none⟩) n4 c3)).setCell ⟨w.heap.size, 1, none⟩ (.slice (some ⟨b1, off1, none⟩) n4 c4)) := (by repeat' (first | (with_reducible exact Keeps.refl _ _) | (with_reducible refine Keeps.alloc ?_ _) | (with_reducible refine Keeps.drew ?_) | (with_reducible refine Keeps.drewN ?_ _) | (with_reducible refine Keeps.setCell ?_ ?_ _) | (refine Keeps.call ?_ (by with_reducible assumption)) | (with_reducible refine Keeps.ext ?_ _) | (simp; done) | (simp; omega) | omega))
      have hBW : Below w.heap.size w ((w2.setCell ⟨w.heap.size, 0, none⟩ (.slice (some ⟨b0, off0, none⟩) n4 c3)).setCell ⟨w.heap.size, 1, none⟩ (.slice (some ⟨b1, off1, none⟩) n4 c4)) := (by repeat' (first | (with_reducible exact Below.refl _ _) | (with_reducible refine Below.alloc ?_ ?_ _) | (with_reducible refine Below.drew ?_) | (with_reducible refine below_drewN ?_ _) | (with_reducible refine Below.setCell ?_ ?_ _) | (refine via ?_ (by with_reducible assumption) ?_) | (refine via ?_ (below_ext _ _) ?_) | go_size))
      have u0 := (Wc b0 (off0 + d) (by have : w1.heap.size ≤ b0 := hS0; omega)).trans hc0
      have u1 := (Wc b1 (off1 + d) (by have : w1.heap.size ≤ b1 := hS1; omega)).trans hc1
      have u2 := (Wf ⟨b0, off0 + d, none⟩).trans hf0
      have u3 := (Wf ⟨b1, off1 + d, none⟩).trans hf1
      have v0 := (Wc (w.heap.size + 1) 0 (by omega)).trans ((hc_w2 _ _ z_w1_1).trans ((hc_w1 (w.heap.size + 1) 0 (by simp)).trans (show _ = some (.slice none 0 0) by simp)))
      have v1 := (Wc (w.heap.size + 1) 1 (by omega)).trans ((hc_w2 _ _ z_w1_1).trans ((hc_w1 (w.heap.size + 1) 1 (by simp)).trans (show _ = some (.slice none 0 0) by simp)))
      have v2 := (Wf ⟨w.heap.size + 1, 0, none⟩).trans ((hf_w2 _ _ z_w1_1).trans ((hf_w1 (w.heap.size + 1) 0 (by simp)).trans (show World.frozen? _ _ = false by simp)))
      have v3 := (Wf ⟨w.heap.size + 1, 1, none⟩).trans ((hf_w2 _ _ z_w1_1).trans ((hf_w1 (w.heap.size + 1) 1 (by simp)).trans (show World.frozen? _ _ = false by simp)))
      have fin : ∀ (V : World) (fr : List (List Int)), Sl true 4 boolE V (fun b => w1.heap.size ≤ b) (some ⟨b0, off0, none⟩) n4 c3 x.live → Sl true 52 (slE true 3 intE) V (fun b => w1.heap.size ≤ b) (some ⟨b1, off1, none⟩) n4 c4 fr →
          Below w.heap.size w V → w1.heap.size ≤ V.heap.size → RetSE w (⟨x.live.set d is, fr⟩, 0) (.returned (.tuple #[.agg #[.slice (some ⟨b0, off0, none⟩) n4 c3, .slice (some ⟨b1, off1, none⟩) n4 c4], .int .i64 0]))
            (((V.setCell ⟨b0, off0 + d, none⟩ (.bool is)).setCell ⟨w.heap.size + 1, 0, none⟩ (.slice (some ⟨b0, off0, none⟩) n4 c3)).setCell ⟨w.heap.size + 1, 1, none⟩ (.slice (some ⟨b1, off1, none⟩) n4 c4)) := by
        intro V fr hl hf hB hV
        have hS0' : w1.heap.size ≤ b0 := hS0
        obtain ⟨q, hq⟩ := Sl.tagAt hl (by omega)
        have hl2 := hl.set1 rfl (boolE_avoids _) hdn (v := .bool is) (y := is) ⟨rfl, trivial⟩
        have hf2 := ((Turns.refl (fun b => w1.heap.size ≤ b) _ V).setCell (p := ⟨b0, off0 + d, none⟩) hS0 hq (.bool is)).sl (Avoids.slE (intE_avoids _) (by decide)) (by decide) hf
        have hB2 := hB.setCell (show w.heap.size ≤ (⟨b0, off0 + d, none⟩ : Addr).block by show w.heap.size ≤ b0; omega) (.bool is)
        have hkk : Keeps (fun b => w1.heap.size ≤ b) (V.setCell ⟨b0, off0 + d, none⟩ (.bool is)) (((V.setCell ⟨b0, off0 + d, none⟩ (.bool is)).setCell ⟨w.heap.size + 1, 0, none⟩ (.slice (some ⟨b0, off0, none⟩) n4 c3)).setCell ⟨w.heap.size + 1, 1, none⟩ (.slice (some ⟨b1, off1, none⟩) n4 c4)) := (by repeat' (first | (with_reducible exact Keeps.refl _ _) | (with_reducible refine Keeps.alloc ?_ _) | (with_reducible refine Keeps.drew ?_) | (with_reducible refine Keeps.drewN ?_ _) | (with_reducible refine Keeps.setCell ?_ ?_ _) | (refine Keeps.call ?_ (by with_reducible assumption)) | (with_reducible refine Keeps.ext ?_ _) | (simp; done) | (simp; omega) | omega))
        exact ⟨_, _, _, _, _, _, rfl, (hl2.keep hkk).mono (fun b hb _ => by have : w1.heap.size ≤ b := hb; omega), (hf2.keep hkk).mono (fun b hb _ => by have : w1.heap.size ≤ b := hb; omega), (by repeat' (first | (with_reducible exact Below.refl _ _) | (with_reducible refine Below.alloc ?_ ?_ _) | (with_reducible refine Below.drew ?_) | (with_reducible refine below_drewN ?_ _) | (with_reducible refine Below.setCell ?_ ?_ _) | (refine via ?_ (by with_reducible assumption) ?_) | (refine via ?_ (below_ext _ _) ?_) | go_size))⟩
      have FIN := Lib.hid fin; clear fin
      have hbb : b0 ≠ b1 := by
        intro e
        subst e
        obtain ⟨q, hq⟩ := Sl.tagAt hs0 (by omega)
        obtain ⟨q', hq'⟩ := Sl.tagAt hs1 (by omega)
        rw [hq] at hq'
        injection hq' with hq'; injection hq' with hq' _
        exact absurd hq' (by decide)
      have HS0 := Lib.hid (hs0.keep hk)
      have HS1 := Lib.hid (hs1.keep hk)
      have hws : w1.heap.size ≤ ((w2.setCell ⟨w.heap.size, 0, none⟩ (.slice (some ⟨b0, off0, none⟩) n4 c3)).setCell ⟨w.heap.size, 1, none⟩ (.slice (some ⟨b1, off1, none⟩) n4 c4)).heap.size := by simpa using hb2.size
      have HBW := Lib.hid hBW; clear hBW
      have HWS := Lib.hid hws; clear hws
      have e1 := HL1.out
      cases is with
      | false =>
        have HRX : Hid (R = (⟨x.live.set d false, x.free⟩, 0)) := Lib.hid (HRR.out.trans (by rw [Int.toNat_natCast, liveX_off]))
        go_wp2
        refine bodyPost_ret (v := .tuple #[.agg #[.slice (some ⟨b0, off0, none⟩) n4 c3, .slice (some ⟨b1, off1, none⟩) n4 c4], .int .i64 0]) (by simp [results, Try.results126, go_sem, *]; done) rfl ?_
        rw [HRX.out]
        exact FIN.out _ _ HS0.out HS1.out HBW.out HWS.out
      | true =>
        generalize hlv : x.live.getD d false = lv at *
        have HLV := Lib.hid hlv; clear hlv
        cases lv with
        | true =>
          have HRX : Hid (R = (⟨x.live.set d true, x.free⟩, 0)) := Lib.hid (HRR.out.trans (by rw [Int.toNat_natCast, liveX_no HLV.out]))
          go_wp2
          refine bodyPost_ret (v := .tuple #[.agg #[.slice (some ⟨b0, off0, none⟩) n4 c3, .slice (some ⟨b1, off1, none⟩) n4 c4], .int .i64 0]) (by simp [results, Try.results126, go_sem, *]; done) rfl ?_
          rw [HRX.out]
          exact FIN.out _ _ HS0.out HS1.out HBW.out HWS.out
        | false =>
          have HRX : Hid (R = (⟨x.live.set d true, x.free.set d (upto n)⟩, 0)) := Lib.hid (HRR.out.trans (by rw [Int.toNat_natCast, Int.toNat_natCast, liveX_yes HLV.out]))
          go_wp2_with fail
          go_region_law (refine step_call rfl 129 #[.tmp 47] #[3] rfl Try.func129 (by kernel_rfl) (by kernel_rfl) #[.int .i64 (n : Int)] (by simp [Act.eval, Act.put]) (All_c (by omega)) ?_; rintro e w5 ⟨A5, c5, rfl, hown5, hb5⟩; have t0 := (hb5.cell (p := ⟨w.heap.size, 0, none⟩) (by simpa using z_w2_0)).trans W0; have t1 := (hb5.cell (p := ⟨w.heap.size, 1, none⟩) (by simpa using z_w2_0)).trans W1; have s0 := (hb5.cell (p := ⟨b0, off0 + d, none⟩) (by simpa using hbl0)).trans u0; have s1 := (hb5.cell (p := ⟨b1, off1 + d, none⟩) (by simpa using hbl1)).trans u1; have s2 := (hb5.frozen (p := ⟨b0, off0 + d, none⟩) (by simpa using hbl0)).trans u2; have s3 := (hb5.frozen (p := ⟨b1, off1 + d, none⟩) (by simpa using hbl1)).trans u3; have m0 := (hb5.cell (p := ⟨w.heap.size + 1, 0, none⟩) (by simpa using z_w2_1)).trans v0; have m1 := (hb5.cell (p := ⟨w.heap.size + 1, 1, none⟩) (by simpa using z_w2_1)).trans v1; have m2 := (hb5.frozen (p := ⟨w.heap.size + 1, 0, none⟩) (by simpa using z_w2_1)).trans v2; have m3 := (hb5.frozen (p := ⟨w.heap.size + 1, 1, none⟩) (by simpa using z_w2_1)).trans v3; refine ⟨_, rfl, ?_⟩)
          all_goals
            have HB5 := Lib.hid hb5; clear hb5
            have HO5 := Lib.hid hown5; clear hown5
            go_wp2
            refine bodyPost_ret (v := .tuple #[.agg #[.slice (some ⟨b0, off0, none⟩) n4 c3, .slice (some ⟨b1, off1, none⟩) n4 c4], .int .i64 0]) (by simp [results, Try.results126, go_sem, *]; done) rfl ?_
            rw [HRX.out]
            have h5 := (HS1.out.frame (Agree.drew _ _) (Nat.le_refl _)).all HB5.out
            have h50 := (HS0.out.frame (Agree.drew _ _) (Nat.le_refl _)).all HB5.out
            have ho5 := (HO5.out.sl (tg := true)).mono (S' := fun b => w1.heap.size ≤ b) (fun b hb _ => Nat.le_trans HWS.out (by simpa using hb))
            have hst := h5.set1 rfl (Avoids.slE (intE_avoids _) (by decide)) hdn (v := .slice A5 (upto n).length c5) (y := upto n) ⟨_, _, _, rfl, ho5⟩
            obtain ⟨q, hq⟩ := Sl.tagAt h5 (by omega)
            have hst0 := ((Turns.refl (fun b => w1.heap.size ≤ b) _ w5).setCell (p := ⟨b1, off1 + d, none⟩) hS1 hq (.slice A5 (upto n).length c5)).sl (boolE_avoids _) (by decide) h50
            have hB5 : Below w.heap.size w w5 := via HBW.out.drew HB5.out (Nat.le_refl _)
            refine FIN.out _ _ hst0 hst (hB5.setCell (show w.heap.size ≤ b1 by have : w1.heap.size ≤ b1 := hS1; omega) _) ?_
            have := HWS.out
            have := HB5.out.size
            simp at this ⊢
            omega
    · have HRR : Hid (R = (⟨[], []⟩, 1)) := Lib.hid (HBAD.out (.inr hn))
      rcases (by omega : d < 0 ∨ (0 ≤ d ∧ (n0 : Int) ≤ d) ∨ (0 ≤ d ∧ d < n0 ∧ n < 0) ∨ (0 ≤ d ∧ d < n0 ∧ 0 ≤ n ∧ 64 < n)) with h | ⟨h, h'⟩ | ⟨h, h', h''⟩ | ⟨h, h', h'', h'''⟩ <;>
      · go_wp2
        refine bodyPost_ret (v := .tuple #[.agg #[.slice none 0 0, .slice none 0 0], .int .i64 1]) (by simp [results, Try.results126, go_sem, *]; done) rfl ?_
        exact RetSE.bad HRR.out (by repeat' (first | (with_reducible exact Below.refl _ _) | (with_reducible refine Below.alloc ?_ ?_ _) | (with_reducible refine Below.drew ?_) | (with_reducible refine below_drewN ?_ _) | (with_reducible refine Below.setCell ?_ ?_ _) | (refine via ?_ (by with_reducible assumption) ?_) | (refine via ?_ (below_ext _ _) ?_) | go_size))
end Go.Proofs.Ytfccghfcilccfaa
