/- Which slots may be: the page's answer. -/
import Derived.Test.YtjeecdoffoahkaaS1
namespace Go.Proofs.Ytjeecdoffoahkaa
open Go.RowKit Go.Silo

set_option maxHeartbeats 4000000 in
theorem refSlots_c {tg : Bool} {S : Nat → Prop} {w : World} {A0 A1 : Option Addr} {n0 c0 n1 c1 : Nat} {x : SlotsD}
    (h0 : Sl tg 4 boolE w S A0 n0 c0 x.live) (h1 : Sl tg 52 (slE tg 3 intE) w S A1 n1 c1 x.free) :
    Calls Try.prog 26 #[.agg #[.slice A0 n0 c0, .slice A1 n1 c1]] w (RetV (.bool (slotsOkB x)) w) := by
  have HL0 := Lib.hid h0.len
  have HL1 := Lib.hid h1.len
  have hcap1 : n1 ≤ 9223372036854775807 := Nat.le_trans h1.le h1.cap
  have HY := Lib.hid (@slotsOkB_true x)
  have HN := Lib.hid (@slotsOkB_false x)
  generalize hr : slotsOkB x = r at *
  have HR := Lib.hid hr; clear hr
  by_cases hgood : 1 ≤ n0 ∧ n0 ≤ 12 ∧ n1 = n0
  · obtain ⟨g1, g2, rfl⟩ := hgood
    go_enter Try.func26, Try.ntmps26
    go_wp2_with (go_at_call 57; refine Between_c.mono ?_; rintro e w1 ⟨rfl, hb1⟩; rw [decide_eq_true (by omega)]; (obtain ⟨hc_w1, hf_w1⟩ := bcell hb1; have z_w1_0 : w.heap.size < w1.heap.size := (by have := hb1.size; first | omega | (simp at this; omega))))
    go_loopw [3, 4] (fun i _ wr => ∃ k : Nat, k ≤ n1 ∧ i = .int .i64 k ∧ Below w.heap.size w wr ∧ wr.cell? ⟨w.heap.size, 0, none⟩ = some (.slice A0 n1 c0) ∧ wr.cell? ⟨w.heap.size, 1, none⟩ = some (.slice A1 n1 c1) ∧ Hid (∀ j, j < k → Rising (x.free.getD j []))) (fun i _ _ => n1 - (intOf i).toNat)
    case atStart => exact ⟨0, Nat.zero_le _, rfl, (by repeat' (first | (with_reducible exact Below.refl _ _) | (with_reducible refine Below.alloc ?_ ?_ _) | (with_reducible refine Below.drew ?_) | (with_reducible refine below_drewN ?_ _) | (with_reducible refine Below.setCell ?_ ?_ _) | (refine via ?_ (by with_reducible assumption) ?_) | (refine via ?_ (below_ext _ _) ?_) | go_size)), by rw [hc_w1 _ _ (by simp)]; simp, by rw [hc_w1 _ _ (by simp)]; simp, Lib.hid (fun j hj => by omega)⟩
    case round =>
      obtain ⟨k, hk, rfl, hB, hb0, hb1', he⟩ := hrel
      obtain ⟨wo, rfl⟩ : ∃ wo : World, wo = wr := ⟨_, rfl⟩
      have hbs := hB.size
      by_cases hlt : k < n1
      · obtain ⟨b, off, A2, n2, c2, rfl, hS, hbl, h2, hc0, _⟩ := (h1.all hB).sl_at hlt
        have hmem : x.free.getD k [] ∈ x.free := getD_mem (by have := HL1.out; omega)
        generalize hx : x.free.getD k [] = l at *
        have HX := Lib.hid hx; clear hx
        have HB := Lib.hid hB; clear hB
        have HL2 := Lib.hid h2.len
        have hcap2 : n2 ≤ 9223372036854775807 := Nat.le_trans h2.le h2.cap
        have HM := Lib.hid hmem; clear hmem
        by_cases h64 : n2 ≤ 64
        · go_wp2
          go_loopw [4] (fun i ws => ∃ m : Nat, m ≤ n2 ∧ i = .int .i64 m ∧ Below wo.heap.size wo ws ∧ Hid (∀ j, j < m → Rat l j)) (fun i _ => n2 - (intOf i).toNat)
          case atStart => exact ⟨0, Nat.zero_le _, rfl, Below.refl _ _, Lib.hid (fun j hj => by omega)⟩
          case round =>
            obtain ⟨m, hm, rfl, hBs, hes⟩ := hrel
            have hBW : Below w.heap.size w wr := via HB.out hBs (Nat.le_refl _)
            have hs2 := hBs.size
            have k0 : wr.cell? ⟨w.heap.size, 0, none⟩ = some (.slice A0 n1 c0) := by rw [hBs.cell (p := ⟨w.heap.size, 0, none⟩) (block_lt_of_cell hb0)]; exact hb0
            have k1 : wr.cell? ⟨w.heap.size, 1, none⟩ = some (.slice (some ⟨b, off, none⟩) n1 c1) := by rw [hBs.cell (p := ⟨w.heap.size, 1, none⟩) (block_lt_of_cell hb1')]; exact hb1'
            have k2 : wr.cell? ⟨b, off + k, none⟩ = some (.slice A2 n2 c2) := by rw [hBs.cell (p := ⟨b, off + k, none⟩) hbl]; exact hc0
            have z0 : w.heap.size < wr.heap.size := Nat.lt_of_lt_of_le (block_lt_of_cell hb0) hs2
            have z1 : b < wr.heap.size := by omega
            by_cases hltm : m < n2
            · obtain ⟨b2, off2, rfl, hS2, hbl2, g1v, hv, _⟩ := (h2.all hBs).int_at hltm
              have no : ¬ Rat l m → Hid (false = r) := fun hn => Lib.hid (HN.out fun h => hn (rising_of (risingB_true (h.free _ HM.out)) m (by rw [HL2.out]; exact hltm))).symm
              have yes : Rat l m → Hid (∀ j, j < m + 1 → Rat l j) := fun hy => Lib.hid (fun j hj => by
                by_cases hjk : j = m
                · subst hjk; exact hy
                · exact hes.out j (by omega))
              have hext := cell_ext wr
              have HBs := Lib.hid hBs; clear hBs hBW
              rcases Nat.eq_zero_or_pos m with rfl | hpos
              · simp only [Nat.add_zero] at hv
                generalize hx : l.getD 0 0 = v at *
                have HV := Lib.hid hx; clear hx
                by_cases hin : 0 ≤ v ∧ v ≤ 63
                · have HF := yes (.first rfl (by rw [HV.out]; exact hin.1) (by rw [HV.out]; exact hin.2))
                  clear no yes
                  have hc := fun X => (Num_c : Calls Try.prog 21 #[.int .i64 v, .int .i64 63] (wr.ext X) _)
                  rw [decide_eq_true hin] at hc
                  have HC := Lib.hid hc; clear hc
                  go_wp2
                  refine region_ext (by kernel_rfl) (by kernel_rfl) ?_
                  repeat (go_big_quiet_step ((go_at_call 21; exact RetV.ext (HC.out _))))
                  refine wpQuiet_nil ?_
                  rintro _ ⟨X, rfl⟩
                  go_wp2
                  go_roundw
                  case rel => have hBs := HBs.out; exact ⟨1, by omega, by go_num, (by repeat' (first | (with_reducible exact Below.refl _ _) | (with_reducible refine Below.alloc ?_ ?_ _) | (with_reducible refine Below.drew ?_) | (with_reducible refine below_drewN ?_ _) | (with_reducible refine Below.setCell ?_ ?_ _) | (refine via ?_ (by with_reducible assumption) ?_) | (refine via ?_ (below_ext _ _) ?_) | go_size)), HF⟩
                  case measure => simp [intOf]; omega
                · have HF := no (fun hr => hin ⟨by have := hr.1; rw [HV.out] at this; exact this, by have := hr.2.1; rw [HV.out] at this; exact this⟩)
                  clear no yes
                  have hc := fun X => (Num_c : Calls Try.prog 21 #[.int .i64 v, .int .i64 63] (wr.ext X) _)
                  rw [decide_eq_false hin] at hc
                  have HC := Lib.hid hc; clear hc
                  go_wp2
                  refine region_ext (by kernel_rfl) (by kernel_rfl) ?_
                  repeat (go_big_quiet_step ((go_at_call 21; exact RetV.ext (HC.out _))))
                  refine wpQuiet_nil ?_
                  rintro _ ⟨X, rfl⟩
                  go_wp2
                  go_ret
                  have hB := HB.out
                  have hBs := HBs.out
                  exact ⟨by rw [HF.out]; rfl, (by repeat' (first | (with_reducible exact Below.refl _ _) | (with_reducible refine Below.alloc ?_ ?_ _) | (with_reducible refine Below.drew ?_) | (with_reducible refine below_drewN ?_ _) | (with_reducible refine Below.setCell ?_ ?_ _) | (refine via ?_ (by with_reducible assumption) ?_) | (refine via ?_ (below_ext _ _) ?_) | go_size))⟩
              · obtain ⟨j, rfl⟩ : ∃ j, m = j + 1 := ⟨m - 1, by omega⟩
                obtain ⟨b2', off2', e', _, _, _, hv', _⟩ := (h2.all HBs.out).int_at (show j < n2 by omega)
                injection e' with e'; injection e' with e1 e2 _; subst e1; subst e2
                generalize hx : l.getD (j + 1) 0 = v at *
                generalize hy : l.getD j 0 = u at *
                have HV := Lib.hid hx; clear hx
                have HU := Lib.hid hy; clear hy
                by_cases hin : 0 ≤ v ∧ v ≤ 63
                · by_cases hlt3 : u < v
                  · have HF := yes (.next (by rw [HV.out]; exact hin.1) (by rw [HV.out]; exact hin.2) (by rw [HV.out, HU.out]; exact hlt3))
                    clear no yes
                    have hc := fun X => (Num_c : Calls Try.prog 21 #[.int .i64 v, .int .i64 63] (wr.ext X) _)
                    rw [decide_eq_true hin] at hc
                    have HC := Lib.hid hc; clear hc
                    go_wp2
                    refine region_ext (by kernel_rfl) (by kernel_rfl) ?_
                    repeat (go_big_quiet_step ((go_at_call 21; exact RetV.ext (HC.out _))))
                    refine wpQuiet_nil ?_
                    rintro _ ⟨X, rfl⟩
                    go_wp2
                    go_roundw
                    case rel => have hBs := HBs.out; exact ⟨j + 1 + 1, by omega, by go_num, (by repeat' (first | (with_reducible exact Below.refl _ _) | (with_reducible refine Below.alloc ?_ ?_ _) | (with_reducible refine Below.drew ?_) | (with_reducible refine below_drewN ?_ _) | (with_reducible refine Below.setCell ?_ ?_ _) | (refine via ?_ (by with_reducible assumption) ?_) | (refine via ?_ (below_ext _ _) ?_) | go_size)), HF⟩
                    case measure => simp [intOf]; omega
                  · have HF := no (fun hr => hlt3 (by have := hr.2.2 (by omega); simp only [Nat.add_sub_cancel] at this; rw [HV.out, HU.out] at this; exact this))
                    have hle3 : v ≤ u := by omega
                    clear no yes
                    have hc := fun X => (Num_c : Calls Try.prog 21 #[.int .i64 v, .int .i64 63] (wr.ext X) _)
                    rw [decide_eq_true hin] at hc
                    have HC := Lib.hid hc; clear hc
                    go_wp2
                    refine region_ext (by kernel_rfl) (by kernel_rfl) ?_
                    repeat (go_big_quiet_step ((go_at_call 21; exact RetV.ext (HC.out _))))
                    refine wpQuiet_nil ?_
                    rintro _ ⟨X, rfl⟩
                    go_wp2
                    go_ret
                    have hB := HB.out
                    have hBs := HBs.out
                    exact ⟨by rw [HF.out]; rfl, (by repeat' (first | (with_reducible exact Below.refl _ _) | (with_reducible refine Below.alloc ?_ ?_ _) | (with_reducible refine Below.drew ?_) | (with_reducible refine below_drewN ?_ _) | (with_reducible refine Below.setCell ?_ ?_ _) | (refine via ?_ (by with_reducible assumption) ?_) | (refine via ?_ (below_ext _ _) ?_) | go_size))⟩
                · have HF := no (fun hr => hin ⟨by have := hr.1; rw [HV.out] at this; exact this, by have := hr.2.1; rw [HV.out] at this; exact this⟩)
                  clear no yes
                  have hc := fun X => (Num_c : Calls Try.prog 21 #[.int .i64 v, .int .i64 63] (wr.ext X) _)
                  rw [decide_eq_false hin] at hc
                  have HC := Lib.hid hc; clear hc
                  go_wp2
                  refine region_ext (by kernel_rfl) (by kernel_rfl) ?_
                  repeat (go_big_quiet_step ((go_at_call 21; exact RetV.ext (HC.out _))))
                  refine wpQuiet_nil ?_
                  rintro _ ⟨X, rfl⟩
                  go_wp2
                  go_ret
                  have hB := HB.out
                  have hBs := HBs.out
                  exact ⟨by rw [HF.out]; rfl, (by repeat' (first | (with_reducible exact Below.refl _ _) | (with_reducible refine Below.alloc ?_ ?_ _) | (with_reducible refine Below.drew ?_) | (with_reducible refine below_drewN ?_ _) | (with_reducible refine Below.setCell ?_ ?_ _) | (refine via ?_ (by with_reducible assumption) ?_) | (refine via ?_ (below_ext _ _) ?_) | go_size))⟩
            · have HF : Hid (∀ j, j < k + 1 → Rising (x.free.getD j [])) := Lib.hid (fun j hj => by
                by_cases hjk : j = k
                · subst hjk; rw [HX.out]; exact fun i hi => hes.out i (by have := HL2.out; omega)
                · exact he.out j (by omega))
              go_wp2
              go_roundw
              case rel => exact ⟨k + 1, by omega, by go_num, hBW, k0, k1, HF⟩
              case measure => simp [intOf]; omega
        · have HF := Lib.hid (HN.out fun h => by have := pigeon (h.free _ HM.out); have := HL2.out; omega)
          go_wp2
          go_ret
          exact ⟨by rw [HF.out]; rfl, HB.out⟩
      · have HF := Lib.hid (HY.out ⟨by have := HL0.out; omega, by have := HL0.out; omega, by have := HL0.out; have := HL1.out; omega, fun l hl => by
          obtain ⟨j, hj, rfl⟩ := List.mem_iff_getElem.1 hl
          have := he.out j (by have := HL1.out; omega)
          rw [List.getD_eq_getElem?_getD, List.getElem?_eq_getElem hj] at this
          exact this⟩)
        go_wp2
        go_ret
        exact ⟨by rw [HF.out]; rfl, hB⟩
  · go_enter Try.func26, Try.ntmps26
    go_wp2_with (go_at_call 57; refine Between_c.mono ?_; rintro e w1 ⟨rfl, hb1⟩; (obtain ⟨hc_w1, hf_w1⟩ := bcell hb1; have z_w1_0 : w.heap.size < w1.heap.size := (by have := hb1.size; first | omega | (simp at this; omega))))
    all_goals
      go_ret
      refine ⟨?_, (by repeat' (first | (with_reducible exact Below.refl _ _) | (with_reducible refine Below.alloc ?_ ?_ _) | (with_reducible refine Below.drew ?_) | (with_reducible refine below_drewN ?_ _) | (with_reducible refine Below.setCell ?_ ?_ _) | (refine via ?_ (by with_reducible assumption) ?_) | (refine via ?_ (below_ext _ _) ?_) | go_size))⟩
      have e0 := HL0.out
      have e1 := HL1.out
      rw [HN.out fun h => by have := h.one; have := h.most; have := h.same; omega]
      rfl
end Go.Proofs.Ytjeecdoffoahkaa
