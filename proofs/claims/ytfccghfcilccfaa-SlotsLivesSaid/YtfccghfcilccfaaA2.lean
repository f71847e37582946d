/- siloref11.Live. -/
import Derived.Test.YtfccghfcilccfaaT2
import Derived.Test.YtfccghfcilccfaaS4
import Derived.Test.YtfccghfcilccfaaT8
import Derived.Deep.Cut
namespace Go.Proofs.Ytfccghfcilccfaa
open Go.RowKit Go.Silo

set_option maxRecDepth 100000 in
set_option maxHeartbeats 4000000 in
theorem refLive_c {tg : Bool} {S : Nat → Prop} {w : World} {A0 A1 : Option Addr} {n0 c0 n1 c1 : Nat} {x : SlotsD} {d n : Nat} {is : Bool} (hx : SlotsOk x) (hd : d < x.live.length) (hn : n ≤ 1000000)
    (h0 : Sl tg 4 boolE w S A0 n0 c0 x.live) (h1 : Sl tg 52 (slE tg 3 intE) w S A1 n1 c1 x.free) :
    Calls Try.prog 127 #[.agg #[.slice A0 n0 c0, .slice A1 n1 c1], .int .i64 (d : Int), .bool is, .int .i64 (n : Int)] w (RetE (slotsDE true) w (liveX x d is n)) := by
  have HL0 := Lib.hid h0.len
  have HL1 := Lib.hid h1.len
  generalize hR : liveX x d is n = R at *
  have HRR : Hid (R = liveX x d is n) := Lib.hid hR.symm
  clear hR
  have hx1 := hx.one
  have hx2 := hx.most
  have hx3 := hx.same
  have e0 := HL0.out
  have e1 := HL1.out
  have hn0' : n0 ≤ 12 := by omega
  have hn1' : n1 = n0 := by omega
  have hdn : d < n0 := by omega
  have HF : Hid (∀ l ∈ x.free, l.length ≤ 100000000) := Lib.hid (fun l hl => by have := pigeon (hx.free l hl); omega)
  clear hx1 hx2 hx3 e0 e1 hd hx
  subst hn1'
  have hb1 : Below w.heap.size w ((w.alloc (.cells #[.slice A0 n1 c0, .slice A1 n1 c1] 62)).alloc (.cells #[.slice none 0 0, .slice none 0 0] 62)) := (by repeat' (first | (with_reducible exact Below.refl _ _) | (with_reducible refine Below.alloc ?_ ?_ _) | (with_reducible refine Below.drew ?_) | (with_reducible refine below_drewN ?_ _) | (with_reducible refine Below.setCell ?_ ?_ _) | (refine via ?_ (by with_reducible assumption) ?_) | (refine via ?_ (below_ext _ _) ?_) | go_size))
  have hbox1 := alloc2' w (.cells #[.slice none 0 0, .slice none 0 0] 62) #[.slice A0 n1 c0, .slice A1 n1 c1] 62
  have hres1 := alloc2 w (.cells #[.slice A0 n1 c0, .slice A1 n1 c1] 62) #[.slice none 0 0, .slice none 0 0] 62
  have hz1 : ((w.alloc (.cells #[.slice A0 n1 c0, .slice A1 n1 c1] 62)).alloc (.cells #[.slice none 0 0, .slice none 0 0] 62)).heap.size = w.heap.size + 2 := by simp
  have hcopy := CopySlots_c (h0.all hb1) (h1.all hb1) (by omega) (by omega) HF.out
  go_enter Try.func127, Try.ntmps127
  go_wp2_with fail
  refine hcopy.mono ?_
  clear hcopy
  generalize ((w.alloc (.cells #[.slice A0 n1 c0, .slice A1 n1 c1] 62)).alloc (.cells #[.slice none 0 0, .slice none 0 0] 62)) = w1 at *
  have z_w1_0 : w.heap.size < w1.heap.size := by omega
  have z_w1_1 : w.heap.size + 1 < w1.heap.size := by omega
  rintro e w2 ⟨vs, rfl, ⟨A3, n3, c3, A4, n4, c4, rfl, _, hs0, hs1⟩, hb2⟩
  (obtain ⟨hc_w2, hf_w2⟩ := bcell hb2; have z_w2_0 : w.heap.size < w2.heap.size := (by have := hb2.size; first | omega | (simp at this; omega)); have z_w2_1 : w.heap.size + 1 < w2.heap.size := (by have := hb2.size; first | omega | (simp at this; omega)))
  obtain rfl : n3 = n1 := by have := hs0.len; have := HL0.out; omega
  obtain rfl : n4 = n3 := by have := hs1.len; have := HL1.out; omega
  obtain ⟨b0, off0, rfl, hS0, hbl0, hc0, hf0⟩ := hs0.bool_at hdn
  obtain ⟨b1, off1, Aa, na, ca, rfl, hS1, hbl1, hla, hc1, hf1⟩ := hs1.sl_at hdn
  have hw2 : w2.heap[w.heap.size]? = some (.cells #[.slice A0 n4 c0, .slice A1 n4 c1] 62 (0, 0)) := by rw [hb2.block _ z_w1_0]; exact hbox1
  have hr2 : w2.heap[w.heap.size + 1]? = some (.cells #[.slice none 0 0, .slice none 0 0] 62 (0, 0)) := by rw [hb2.block _ z_w1_1]; exact hres1
  obtain ⟨hW, W0, W1, Wc, Wf⟩ := box_stored (u := .slice (some ⟨b0, off0, none⟩) n4 c3) (v := .slice (some ⟨b1, off1, none⟩) n4 c4) hw2
  have hk : Keeps (fun b => w1.heap.size ≤ b) w2 ((w2.setCell ⟨w.heap.size, 0, none⟩ (.slice (some ⟨b0, off0, none⟩) n4 c3)).setCell ⟨w.heap.size, 1, none⟩ (.slice (some ⟨b1, off1, none⟩) n4 c4)) := (by repeat' (first | (with_reducible exact Keeps.refl _ _) | (with_reducible refine Keeps.alloc ?_ _) | (with_reducible refine Keeps.drew ?_) | (with_reducible refine Keeps.drewN ?_ _) | (with_reducible refine Keeps.setCell ?_ ?_ _) | (refine Keeps.call ?_ (by with_reducible assumption)) | (with_reducible refine Keeps.ext ?_ _) | (simp; done) | (simp; omega) | omega))
  have hBW : Below w.heap.size w ((w2.setCell ⟨w.heap.size, 0, none⟩ (.slice (some ⟨b0, off0, none⟩) n4 c3)).setCell ⟨w.heap.size, 1, none⟩ (.slice (some ⟨b1, off1, none⟩) n4 c4)) := (by repeat' (first | (with_reducible exact Below.refl _ _) | (with_reducible refine Below.alloc ?_ ?_ _) | (with_reducible refine Below.drew ?_) | (with_reducible refine below_drewN ?_ _) | (with_reducible refine Below.setCell ?_ ?_ _) | (refine via ?_ (by with_reducible assumption) ?_) | (refine via ?_ (below_ext _ _) ?_) | go_size))
  have u0 := (Wc b0 (off0 + d) (by have : w1.heap.size ≤ b0 := hS0; omega)).trans hc0
  have u1 := (Wc b1 (off1 + d) (by have : w1.heap.size ≤ b1 := hS1; omega)).trans hc1
  have u2 := (Wf ⟨b0, off0 + d, none⟩).trans hf0
  have u3 := (Wf ⟨b1, off1 + d, none⟩).trans hf1
  have v0 := (Wc (w.heap.size + 1) 0 (by omega)).trans ((cell_of_row w2 (w.heap.size + 1) 0 _ _ _ hr2).trans (show _ = some (Value.slice none 0 0) from rfl))
  have v1 := (Wc (w.heap.size + 1) 1 (by omega)).trans ((cell_of_row w2 (w.heap.size + 1) 1 _ _ _ hr2).trans (show _ = some (Value.slice none 0 0) from rfl))
  have v2 := (Wf ⟨w.heap.size + 1, 0, none⟩).trans (frozen_of_row w2 (w.heap.size + 1) 0 _ _ hr2)
  have v3 := (Wf ⟨w.heap.size + 1, 1, none⟩).trans (frozen_of_row w2 (w.heap.size + 1) 1 _ _ hr2)
  have fin : ∀ (V : World) (fr : List (List Int)), Sl true 4 boolE V (fun b => w1.heap.size ≤ b) (some ⟨b0, off0, none⟩) n4 c3 x.live → Sl true 52 (slE true 3 intE) V (fun b => w1.heap.size ≤ b) (some ⟨b1, off1, none⟩) n4 c4 fr →
      Below w.heap.size w V → w1.heap.size ≤ V.heap.size → RetE (slotsDE true) w ⟨x.live.set d is, fr⟩ (.returned (.agg #[.slice (some ⟨b0, off0, none⟩) n4 c3, .slice (some ⟨b1, off1, none⟩) n4 c4]))
        (((V.setCell ⟨b0, off0 + d, none⟩ (.bool is)).setCell ⟨w.heap.size + 1, 0, none⟩ (.slice (some ⟨b0, off0, none⟩) n4 c3)).setCell ⟨w.heap.size + 1, 1, none⟩ (.slice (some ⟨b1, off1, none⟩) n4 c4)) := by
    intro V fr hl hf hB hV
    have hS0' : w1.heap.size ≤ b0 := hS0
    obtain ⟨q, hq⟩ := Sl.tagAt hl (by omega)
    have hl2 := hl.set1 rfl (boolE_avoids _) hdn (v := .bool is) (y := is) ⟨rfl, trivial⟩
    have hf2 := ((Turns.refl (fun b => w1.heap.size ≤ b) _ V).setCell (p := ⟨b0, off0 + d, none⟩) hS0 hq (.bool is)).sl (Avoids.slE (intE_avoids _) (by decide)) (by decide) hf
    have hB2 := hB.setCell (show w.heap.size ≤ (⟨b0, off0 + d, none⟩ : Addr).block by show w.heap.size ≤ b0; omega) (.bool is)
    have hkk : Keeps (fun b => w1.heap.size ≤ b) (V.setCell ⟨b0, off0 + d, none⟩ (.bool is)) (((V.setCell ⟨b0, off0 + d, none⟩ (.bool is)).setCell ⟨w.heap.size + 1, 0, none⟩ (.slice (some ⟨b0, off0, none⟩) n4 c3)).setCell ⟨w.heap.size + 1, 1, none⟩ (.slice (some ⟨b1, off1, none⟩) n4 c4)) := (by repeat' (first | (with_reducible exact Keeps.refl _ _) | (with_reducible refine Keeps.alloc ?_ _) | (with_reducible refine Keeps.drew ?_) | (with_reducible refine Keeps.drewN ?_ _) | (with_reducible refine Keeps.setCell ?_ ?_ _) | (refine Keeps.call ?_ (by with_reducible assumption)) | (with_reducible refine Keeps.ext ?_ _) | (simp; done) | (simp; omega) | omega))
    exact ⟨_, rfl, ⟨_, _, _, _, _, _, rfl, trivial, (hl2.keep hkk).mono (fun b hb _ => by have : w1.heap.size ≤ b := hb; omega), (hf2.keep hkk).mono (fun b hb _ => by have : w1.heap.size ≤ b := hb; omega)⟩, (by repeat' (first | (with_reducible exact Below.refl _ _) | (with_reducible refine Below.alloc ?_ ?_ _) | (with_reducible refine Below.drew ?_) | (with_reducible refine below_drewN ?_ _) | (with_reducible refine Below.setCell ?_ ?_ _) | (refine via ?_ (by with_reducible assumption) ?_) | (refine via ?_ (below_ext _ _) ?_) | go_size))⟩
  have FIN := Lib.hid fin; clear fin
  have hbb : b0 ≠ b1 := by
    intro e
    subst e
    obtain ⟨q, hq⟩ := Sl.tagAt hs0 (by omega)
    obtain ⟨q', hq'⟩ := Sl.tagAt hs1 (by omega)
    rw [hq] at hq'
    injection hq' with hq'; injection hq' with hq' _
    exact absurd hq' (by decide)
  have HS0 := Lib.hid (hs0.keep hk)
  have HS1 := Lib.hid (hs1.keep hk)
  have hws : w1.heap.size ≤ ((w2.setCell ⟨w.heap.size, 0, none⟩ (.slice (some ⟨b0, off0, none⟩) n4 c3)).setCell ⟨w.heap.size, 1, none⟩ (.slice (some ⟨b1, off1, none⟩) n4 c4)).heap.size := by simpa using hb2.size
  have HBW := Lib.hid hBW; clear hBW
  have HWS := Lib.hid hws; clear hws
  have p0 := (cell_of_row w2 w.heap.size 0 _ _ _ hw2).trans (show _ = some (Value.slice A0 n4 c0) from rfl)
  have p1 := (cell_of_row w2 w.heap.size 1 _ _ _ hw2).trans (show _ = some (Value.slice A1 n4 c1) from rfl)
  have p2 := frozen_of_row w2 w.heap.size 0 _ _ hw2
  have p3 := frozen_of_row w2 w.heap.size 1 _ _ hw2
  clear hbox1 hres1 hw2 hr2 hW hc_w2 hf_w2
  have hwz : w2.heap.size = ((w2.setCell ⟨w.heap.size, 0, none⟩ (.slice (some ⟨b0, off0, none⟩) n4 c3)).setCell ⟨w.heap.size, 1, none⟩ (.slice (some ⟨b1, off1, none⟩) n4 c4)).heap.size := by simp
  have e1 := HL1.out
  go_upto_region 2 with (fail)
  clear p0 p1 p2 p3 hf0 hf1 hc0 hc1
  rw [hwz] at z_w2_0 z_w2_1 hbl0 hbl1
  clear hwz
  generalize ((w2.setCell ⟨w.heap.size, 0, none⟩ (.slice (some ⟨b0, off0, none⟩) n4 c3)).setCell ⟨w.heap.size, 1, none⟩ (.slice (some ⟨b1, off1, none⟩) n4 c4)) = W at *
  clear hk Wc Wf
  cases is with
  | false =>
    have HRX : Hid (R = ⟨x.live.set d false, x.free⟩) := Lib.hid (HRR.out.trans liveX_off)
    go_wp2
    refine bodyPost_ret (v := .agg #[.slice (some ⟨b0, off0, none⟩) n4 c3, .slice (some ⟨b1, off1, none⟩) n4 c4]) (by simp [results, Try.results127, go_sem, *]; done) rfl ?_
    rw [HRX.out]
    exact FIN.out _ _ HS0.out HS1.out HBW.out HWS.out
  | true =>
    generalize hlv : x.live.getD d false = lv at *
    have HLV := Lib.hid hlv; clear hlv
    cases lv with
    | true =>
      have HRX : Hid (R = ⟨x.live.set d true, x.free⟩) := Lib.hid (HRR.out.trans (liveX_no HLV.out))
      go_wp2
      refine bodyPost_ret (v := .agg #[.slice (some ⟨b0, off0, none⟩) n4 c3, .slice (some ⟨b1, off1, none⟩) n4 c4]) (by simp [results, Try.results127, go_sem, *]; done) rfl ?_
      rw [HRX.out]
      exact FIN.out _ _ HS0.out HS1.out HBW.out HWS.out
    | false =>
      have HRX : Hid (R = ⟨x.live.set d true, x.free.set d (upto n)⟩) := Lib.hid (HRR.out.trans (liveX_yes HLV.out))
      go_wp2_with fail
      go_region_law (refine step_call rfl 100 #[.tmp 23] #[3] rfl Try.func100 (by kernel_rfl) (by kernel_rfl) #[.int .i64 (n : Int)] (by simp [Act.eval, Act.put]) (refFirst_c (by omega)) ?_; rintro e w5 ⟨A5, c5, rfl, hown5, hb5⟩; have t0 := (hb5.cell (p := ⟨w.heap.size, 0, none⟩) (by simpa using z_w2_0)).trans W0; have t1 := (hb5.cell (p := ⟨w.heap.size, 1, none⟩) (by simpa using z_w2_0)).trans W1; have s0 := (hb5.cell (p := ⟨b0, off0 + d, none⟩) (by simpa using hbl0)).trans u0; have s1 := (hb5.cell (p := ⟨b1, off1 + d, none⟩) (by simpa using hbl1)).trans u1; have s2 := (hb5.frozen (p := ⟨b0, off0 + d, none⟩) (by simpa using hbl0)).trans u2; have s3 := (hb5.frozen (p := ⟨b1, off1 + d, none⟩) (by simpa using hbl1)).trans u3; have m0 := (hb5.cell (p := ⟨w.heap.size + 1, 0, none⟩) (by simpa using z_w2_1)).trans v0; have m1 := (hb5.cell (p := ⟨w.heap.size + 1, 1, none⟩) (by simpa using z_w2_1)).trans v1; have m2 := (hb5.frozen (p := ⟨w.heap.size + 1, 0, none⟩) (by simpa using z_w2_1)).trans v2; have m3 := (hb5.frozen (p := ⟨w.heap.size + 1, 1, none⟩) (by simpa using z_w2_1)).trans v3; refine ⟨_, rfl, ?_⟩)
      all_goals
        have HB5 := Lib.hid hb5; clear hb5
        have HO5 := Lib.hid hown5; clear hown5
        go_wp2
        refine bodyPost_ret (v := .agg #[.slice (some ⟨b0, off0, none⟩) n4 c3, .slice (some ⟨b1, off1, none⟩) n4 c4]) (by simp [results, Try.results127, go_sem, *]; done) rfl ?_
        rw [HRX.out]
        have h5 := (HS1.out.frame (Agree.drew _ _) (Nat.le_refl _)).all HB5.out
        have h50 := (HS0.out.frame (Agree.drew _ _) (Nat.le_refl _)).all HB5.out
        have ho5 := (HO5.out.sl (tg := true)).mono (S' := fun b => w1.heap.size ≤ b) (fun b hb _ => Nat.le_trans HWS.out (by simpa using hb))
        have hst := h5.set1 rfl (Avoids.slE (intE_avoids _) (by decide)) hdn (v := .slice A5 (upto n).length c5) (y := upto n) ⟨_, _, _, rfl, ho5⟩
        obtain ⟨q, hq⟩ := Sl.tagAt h5 (by omega)
        have hst0 := ((Turns.refl (fun b => w1.heap.size ≤ b) _ w5).setCell (p := ⟨b1, off1 + d, none⟩) hS1 hq (.slice A5 (upto n).length c5)).sl (boolE_avoids _) (by decide) h50
        have hB5 : Below w.heap.size w w5 := via HBW.out.drew HB5.out (Nat.le_refl _)
        refine FIN.out _ _ hst0 hst (hB5.setCell (show w.heap.size ≤ b1 by have : w1.heap.size ≤ b1 := hS1; omega) _) ?_
        have := HWS.out
        have := HB5.out.size
        simp at this ⊢
        omega
end Go.Proofs.Ytfccghfcilccfaa
