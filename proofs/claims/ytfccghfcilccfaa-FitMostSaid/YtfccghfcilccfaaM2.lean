/- silolaw18.FitMost answers true. Printed by gen_m2.py. -/
import Derived.Test.YtfccghfcilccfaaR8
import Derived.Test.YtfccghfcilccfaaR9
import Derived.Test.YtfccghfcilccfaaR10
import Derived.Test.YtfccghfcilccfaaP7
import Derived.Test.YtfccghfcilccfaaE8
import Derived.Deep.CutBlock
import Derived.Deep.Cut
namespace Go.Proofs.Ytfccghfcilccfaa
open Go.RowKit Go.Silo

set_option maxRecDepth 100000 in
set_option maxHeartbeats 16000000 in
theorem FitMost_c {S : Nat → Prop} {w : World} {p : AskF} {As A0 A1 : Option Addr} {ns cs n0 c0 n1 c1 : Nat} (hB : AskFB p) (h : AskFR w S p As ns cs A0 n0 c0 A1 n1 c1) :
    Calls Try.prog 8 #[.agg #[.slice As ns cs, .slice A0 n0 c0, .slice A1 n1 c1, .int .i64 p.n]] w (RetV (.bool true) w) := by
  have HR := Lib.hid (fun W (hW : Below w.heap.size w W) => h.all hW)
  have HLS := Lib.hid h.s.len
  obtain ⟨i0, hi0, hz0, hz1, hz2⟩ := info_parts Try.info_Slot
  have hrow := heap_alloc_new w (.cells #[.slice As ns cs, .slice A0 n0 c0, .slice A1 n1 c1, .int .i64 p.n] 64)
  have hz : w.heap.size < (w.alloc (.cells #[.slice As ns cs, .slice A0 n0 c0, .slice A1 n1 c1, .int .i64 p.n] 64)).heap.size := by simp
  have hal : Below w.heap.size w (w.alloc (.cells #[.slice As ns cs, .slice A0 n0 c0, .slice A1 n1 c1, .int .i64 p.n] 64)) := (by repeat' (first | (with_reducible exact Below.refl _ _) | (with_reducible refine Below.alloc ?_ ?_ _) | (with_reducible refine Below.drew ?_) | (with_reducible refine below_drewN ?_ _) | (with_reducible refine Below.setCell ?_ ?_ _) | (refine via ?_ (by with_reducible assumption) ?_) | (refine via ?_ (below_ext _ _) ?_) | go_size))
  have HHV := Lib.hid (Heavy18_c hB (h.all hal)); clear hB h
  go_enter Try.func8, Try.ntmps8
  go_upto_region 1 with (fail)
  generalize (w.alloc (.cells #[.slice As ns cs, .slice A0 n0 c0, .slice A1 n1 c1, .int .i64 p.n] 64)) = W0 at *
  have HAL := Lib.hid (fun W (hW : Below W0.heap.size W0 W) => hal.trans (hW.mono (Nat.le_of_lt hz))); clear hal
  have y0 := cell_of_row _ _ 0 _ _ _ hrow
  have y1 := cell_of_row _ _ 1 _ _ _ hrow
  have y2 := cell_of_row _ _ 2 _ _ _ hrow
  have y3 := cell_of_row _ _ 3 _ _ _ hrow
  have CELLS : Hid (∀ W, Below W0.heap.size W0 W → W.cell? ⟨w.heap.size, 0, none⟩ = some (.slice As ns cs) ∧ W.cell? ⟨w.heap.size, 1, none⟩ = some (.slice A0 n0 c0) ∧ W.cell? ⟨w.heap.size, 2, none⟩ = some (.slice A1 n1 c1) ∧ W.cell? ⟨w.heap.size, 3, none⟩ = some (.int .i64 p.n)) := Lib.hid (fun W hW => by
    have r := (hW.block _ hz).trans hrow
    exact ⟨cell_of_row W _ 0 _ _ _ r, cell_of_row W _ 1 _ _ _ r, cell_of_row W _ 2 _ _ _ r, cell_of_row W _ 3 _ _ _ r⟩)
  clear hrow
  go_wp2_with fail
  refine HHV.out.mono ?_
  clear y0 y1 y2 y3
  rintro e w1 ⟨v, rfl, hb1, hlight⟩
  have HB1 := Lib.hid hb1; clear hb1
  cases v with
  | true =>
    go_wp2
    go_ret
    exact ⟨by trivial, HAL.out _ HB1.out⟩
  | false =>
    have HLT := Lib.hid (hlight rfl); clear hlight
    go_wp2_with fail
    go_loopw [3] (fun i wr => ∃ k : Nat, k ≤ ns ∧ i = .int .i64 k ∧ Hid (Below W0.heap.size W0 wr)) (fun i _ => ns - (intOf i).toNat)
    case atStart => exact ⟨0, Nat.zero_le _, rfl, HB1⟩
    case round =>
      rename World => wo
      clear HB1
      obtain ⟨ka, hka, rfl, HBo⟩ := hrel
      obtain ⟨y0, y1, y2, y3⟩ := CELLS.out wo HBo.out
      have FIN : ka < ns ∧ ka < 4 ∨ ka < ns ∧ ¬ ka < 4 ∨ ¬ ka < ns := by omega
      rcases FIN with ⟨hlt, hlt4⟩ | ⟨hlt, hlt4⟩ | hlt
      · skip
        have hns : ns ≤ 50 := by have := HLT.out.1; have := HLS.out; omega
        obtain ⟨bs, os, rfl, _, hbls, j1, j2, j3, q0, q1, q2, _⟩ := (HR.out wo (HAL.out _ HBo.out)).s.shape_at hlt
        generalize p.s.getD ka default = s at *
        clear j1 j2 j3
        go_upto_region 7 with (fail)
        clear q0 q1 q2 y0 y1 y2 y3
        have hbrow := heap_alloc_new wo (.cells #[.int .i64 s.K, .int .i64 s.M, .int .i64 s.size] 23)
        have hblt : wo.heap.size < (wo.alloc (.cells #[.int .i64 s.K, .int .i64 s.M, .int .i64 s.size] 23)).heap.size := by simp
        have HBb := Lib.hid (HBo.out.trans (((Below.refl _ wo).alloc (Nat.le_refl _) (.cells #[.int .i64 s.K, .int .i64 s.M, .int .i64 s.size] 23)).mono HBo.out.size))
        generalize wo.alloc (.cells #[.int .i64 s.K, .int .i64 s.M, .int .i64 s.size] 23) = wb at *
        generalize wo.heap.size = g4 at *
        have ROW4 := Lib.hid (fun V (hV : Below wb.heap.size wb V) => (show V.cell? ⟨g4, 0, none⟩ = some (.int .i64 s.K) ∧ V.cell? ⟨g4, 1, none⟩ = some (.int .i64 s.M) ∧ V.cell? ⟨g4, 2, none⟩ = some (.int .i64 s.size) from by
          have r := (hV.block _ hblt).trans hbrow
          exact ⟨cell_of_row V _ 0 _ _ _ r, cell_of_row V _ 1 _ _ _ r, cell_of_row V _ 2 _ _ _ r⟩))
        clear hbrow hblt
        have hA := HR.out wb (HAL.out _ HBb.out)
        have HMO := Lib.hid (fitMost_c (s := s) hA.x0 hA.x1); clear hA
        obtain ⟨y0, y1, y2, y3⟩ := CELLS.out wb HBb.out
        obtain ⟨k0, k1, k2⟩ := ROW4.out wb (Below.refl _ _)
        by_cases hg : shapeOk s = true ∧ slotsOkB p.x = true
        · have hmr : mostR s p.x = ((mostX p.x (s.K + s.M).toNat 2000 : Int), 0) := by unfold mostR; rw [if_pos hg]
          have hle := mostX_le p.x (s.K + s.M).toNat 2000
          rw [hmr] at HMO
          obtain ⟨hsh, hso⟩ := hg
          have hd := hsh
          unfold shapeOk at hd
          have hd := of_decide_eq_true hd
          have HFA : Hid (∀ kk : Nat, (kk : Int) * (s.K * s.size) ≤ 2000 → FitsAs (mostX p.x (s.K + s.M).toNat 2000) kk (textR s p.x ((kk : Int) * (s.K * s.size)))) := Lib.hid (fun kk hkk => by
            have hw : 0 < s.K * s.size := Int.mul_pos (by omega) (by omega)
            exact fits_as hsh (slotsOk_of hso) hw hkk (by omega) (by omega))
          generalize mostX p.x (s.K + s.M).toNat 2000 = N at *
          have hw0 : 1 ≤ s.K * s.size := by have := Int.mul_pos (show 0 < s.K by omega) (show 0 < s.size by omega); omega
          have hw1 : s.K * s.size ≤ 8 * 120 := Int.mul_le_mul (by omega) (by omega) (by omega) (by omega)
          clear hmr
          have HSH := Lib.hid hsh; clear hsh
          have HSO := Lib.hid hso; clear hso
          go_wp2_with fail
          refine HMO.out.mono ?_
          clear HMO y0 y1 y2 y3 k0 k1 k2
          rintro r w5 ⟨rfl, hb5⟩
          have HB5 := Lib.hid hb5; clear hb5
          go_wp2_with fail
          refine num18_c.mono ?_
          rintro r w6 ⟨rfl, hb6⟩
          have HB6 := Lib.hid (HB5.out.trans (hb6.mono HB5.out.size)); clear hb6 HB5
          obtain ⟨k0, k1, k2⟩ := ROW4.out w6 HB6.out
          have hq := refShape_c (w := w6) (s := s)
          rw [HSH.out] at hq
          have HQ := Lib.hid hq; clear hq
          go_wp2_with fail
          refine HQ.out.mono ?_
          clear HQ k0 k1 k2
          rintro r w7 ⟨rfl, hb7⟩
          have HB7 := Lib.hid (HB6.out.trans (hb7.mono HB6.out.size)); clear hb7 HB6
          have HW7 := Lib.hid (HBb.out.trans (HB7.out.mono HBb.out.size))
          have hA := HR.out w7 (HAL.out _ HW7.out)
          have hq := refSlots_c hA.x0 hA.x1
          rw [HSO.out] at hq
          have HQ := Lib.hid hq; clear hq hA
          obtain ⟨y0, y1, y2, y3⟩ := CELLS.out w7 HW7.out
          go_wp2_with fail
          refine HQ.out.mono ?_
          clear HQ y0 y1 y2 y3
          rintro r w8 ⟨rfl, hb8⟩
          have HB8 := Lib.hid (HB7.out.trans (hb8.mono HB7.out.size)); clear hb8 HB7 HW7
          obtain ⟨k0, k1, k2⟩ := ROW4.out w8 HB8.out
          go_wp2_with fail
          clear k0 k1 k2
          generalize s.K * s.size = ww at *
          clear hd
          go_loopw [8] (fun i wk => ∃ kk : Nat, kk ≤ N + 2 ∧ i = .int .i64 kk ∧ Hid (Below wb.heap.size wb wk)) (fun i _ => N + 2 - (intOf i).toNat)
          case atStart => exact ⟨(max 0 ((N : Int) - 1)).toNat, by omega, by congr 1; omega, HB8⟩
          case round =>
            rename World => wk
            clear HB8
            obtain ⟨kk, hkk, rfl, HBk⟩ := hrel
            by_cases hkN : (kk : Int) ≤ N + 1
            · have hm0 : 0 ≤ (kk : Int) * ww := Int.mul_nonneg (by omega) (by omega)
              have hm1 : (kk : Int) * ww ≤ 2001 * 960 := Int.mul_le_mul (by omega) (by omega) (by omega) (by omega)
              by_cases hbig : 2000 < (kk : Int) * ww
              · go_wp2
                exact ⟨⟨kk + 1, by omega, by go_num, HBk⟩, by simp [intOf]; omega⟩
              · have hfa := HFA.out kk (by omega)
                have hA := HR.out wk (HAL.out _ (HBb.out.trans (HBk.out.mono HBb.out.size)))
                have hcl := Text_c (s := s) (n := (kk : Int) * ww) (by unfold I64; omega) hA.x0 hA.x1
                obtain ⟨⟨L, Y, er⟩, hTR⟩ : ∃ r, r = textR s p.x ((kk : Int) * ww) := ⟨_, rfl⟩
                rw [← hTR] at hcl hfa
                clear hTR hA
                have HCL := Lib.hid hcl; clear hcl
                obtain ⟨y0, y1, y2, y3⟩ := CELLS.out wk (HBb.out.trans (HBk.out.mono HBb.out.size))
                obtain ⟨k0, k1, k2⟩ := ROW4.out wk HBk.out
                go_wp2_with fail
                refine HCL.out.mono ?_
                clear HCL y0 y1 y2 y3 k0 k1 k2
                rintro e w9 ⟨A, m, c, C0, e0, f0, C1, e1, f1, rfl, sl, _, _, hb9⟩
                have hLm : L.length = m := sl.len
                have hnd : L.flatten.Nodup := by
                  rcases Nat.lt_or_ge N kk with h | h
                  · have e : L = [] := (hfa.2 h).2
                    rw [e]; simp
                  · exact (hfa.1 h).2.2.1
                have hrow : ∀ l ∈ L, l.length ≤ 14 := by
                  rcases Nat.lt_or_ge N kk with h | h
                  · have e : L = [] := (hfa.2 h).2
                    rw [e]; intro l hl; cases hl
                  · exact (hfa.1 h).2.2.2
                have HND := Lib.hid hnd; clear hnd
                have HRW := Lib.hid hrow; clear hrow
                go_upto_region 15 with (fail)
                have hal : Below w9.heap.size w9 (w9.alloc (.cells #[.slice C0 e0 f0, .slice C1 e1 f1] 62)) := (Below.refl _ _).alloc (Nat.le_refl _) _
                generalize (w9.alloc (.cells #[.slice C0 e0 f0, .slice C1 e1 f1] 62)) = w10 at *
                have HSL := Lib.hid ((Sl.lt_block sl).all hal)
                have HB10 := Lib.hid (HBk.out.trans ((hb9.trans (hal.mono hb9.size)).mono HBk.out.size))
                clear sl hb9 hal
                go_cut [101] from 84 to 101 (fun t V => t = .bool false ∧ Hid (Below w10.heap.size w10 V))
                case first =>
                  by_cases hle : kk ≤ N
                  · obtain ⟨he, hl, _⟩ := hfa.1 hle
                    dsimp only at he hl
                    subst he
                    obtain rfl : m = kk := by omega
                    clear hfa
                    go_wp2_with fail
                    refine num18_c.mono ?_
                    rintro r w11 ⟨rfl, hb11⟩
                    have HB11 := Lib.hid hb11; clear hb11
                    go_wp2_with fail
                    refine num18_c.mono ?_
                    rintro r w12 ⟨rfl, hb12⟩
                    have HB12 := Lib.hid (HB11.out.trans (hb12.mono HB11.out.size)); clear hb12 HB11
                    go_wp2
                    go_meet
                    case rel => exact ⟨by trivial, HB12⟩
                  · obtain ⟨he, hl⟩ := hfa.2 (by omega)
                    dsimp only at he hl
                    have hle' : ¬ ((kk : Int) ≤ N) := by omega
                    have heq : (er == 0) = false := by simp [he]
                    clear hfa he
                    go_wp2_with fail
                    refine num18_c.mono ?_
                    rintro r w11 ⟨rfl, hb11⟩
                    have HB11 := Lib.hid hb11; clear hb11
                    go_wp2_with fail
                    refine num18_c.mono ?_
                    rintro r w12 ⟨rfl, hb12⟩
                    have HB12 := Lib.hid (HB11.out.trans (hb12.mono HB11.out.size)); clear hb12 HB11
                    go_wp2
                    go_meet
                    case rel => exact ⟨by trivial, HB12⟩
                case rest =>
                  obtain ⟨rfl, HBc⟩ := hcut
                  clear hfa
                  go_wp2_with fail
                  go_loopw [13, 12] (fun q all wq => ∃ a : Nat, ∃ F d, a ≤ m ∧ q = .int .i64 a ∧ all = .slice F (L.take a).flatten.length d ∧ Hid (Below w10.heap.size w10 wq) ∧ Hid (Silo.Own 104 slotE wq w10.heap.size (fun _ => False) F (L.take a).flatten.length d (L.take a).flatten)) (fun q _ _ => m - (intOf q).toNat)
                  case atStart => exact ⟨0, none, 0, Nat.zero_le _, rfl, rfl, HBc, Lib.hid Silo.Own.nil_⟩
                  case round =>
                    rename World => wq
                    clear HBc
                    obtain ⟨a, F, d, ham, rfl, rfl, HBq, HOq⟩ := hrel
                    have hcap : m ≤ c := HSL.out.2.1
                    have HBz := Lib.hid (HB10.out.trans (HBq.out.mono HB10.out.size))
                    have FIN3 : a < m ∧ m < 20 ∨ a < m ∧ ¬ m < 20 ∨ ¬ a < m := by omega
                    rcases FIN3 with ⟨haL, hm20⟩ | ⟨haL, hm20⟩ | haL
                    · obtain ⟨bA, oA, Ar, nr, cr, rfl, _, hbl, hrw, l1, _⟩ := HSL.out.sl_at haL
                      obtain ⟨R, hR⟩ : ∃ R, L[a]? = some R := ⟨L[a]'(by omega), List.getElem?_eq_getElem _⟩
                      have hRd : L.getD a [] = R := by rw [List.getD_eq_getElem?_getD, hR]; rfl
                      rw [hRd] at hrw
                      have hRn : R.length = nr := hrw.len
                      have hpre := flat_take HRW.out a
                      have hR14 := HRW.out R (List.mem_of_getElem? hR)
                      have hsn := flat_snoc hR
                      have HFR := Lib.hid (fun b (hb : b < nr) => flat_fresh HND.out hR (by omega : b < R.length))
                      generalize (L.take a).flatten = pre at *
                      have HSN := Lib.hid hsn; clear hsn
                      have HRn := Lib.hid hRn; clear hRn
                      have hnr : nr ≤ 14 := by have := HRn.out; omega
                      have HCELL := Lib.hid (fun V (hV : Below w10.heap.size w10 V) => (hV.cell (p := ⟨bA, oA + a, none⟩) hbl).trans l1)
                      have HRV := Lib.hid (fun V (hV : Below w10.heap.size w10 V) => hrw.all hV)
                      have hcapr : nr ≤ cr := hrw.2.1
                      clear l1 hrw hbl HBz
                      have c1 := HCELL.out wq HBq.out
                      go_wp2_with fail
                      rw [show decide ((m : Int) < 20) = true from decide_eq_true (by omega)]
                      go_loopw [14, 12] (fun j all wj => ∃ b : Nat, ∃ F d, b ≤ nr ∧ j = .int .i64 b ∧ all = .slice F (pre ++ R.take b).length d ∧ Hid (Below w10.heap.size w10 wj) ∧ Hid (Silo.Own 104 slotE wj w10.heap.size (fun _ => False) F (pre ++ R.take b).length d (pre ++ R.take b))) (fun j _ _ => nr - (intOf j).toNat)
                      case atStart => exact ⟨0, F, d, Nat.zero_le _, rfl, by simp, HBq, by simpa using HOq⟩
                      case round =>
                        rename World => wj
                        clear HBq HOq
                        obtain ⟨b, F, d, hbn, rfl, rfl, HBj, HOj⟩ := hrel
                        clear c1
                        have c1 := HCELL.out wj HBj.out
                        by_cases hb : b < nr
                        · obtain ⟨bR, oR, rfl, _, hbr, jq1, jq2, r0, r1, _, _⟩ := (HRV.out wj HBj.out).slot_at hb
                          have hfr := HFR.out b hb
                          have hq0 : R[b]? = some (R.getD b default) := by rw [List.getD_eq_getElem?_getD, List.getElem?_eq_getElem (by have := HRn.out; omega)]; rfl
                          have hnx : pre ++ R.take (b + 1) = (pre ++ R.take b) ++ [R.getD b default] := by rw [List.take_add_one, hq0, ← List.append_assoc]; rfl
                          generalize R.getD b default = q at *
                          have hal : (pre ++ R.take b).length ≤ 14 * a + 14 := by rw [List.length_append, List.length_take]; omega
                          have HNX := Lib.hid hnx; clear hnx hq0
                          have hown := HOj.out
                          generalize hall : pre ++ R.take b = all at *
                          have HALL := Lib.hid hall; clear hall
                          have HFRB := Lib.hid hfr; clear hfr
                          go_wp2_with fail
                          go_loopw [15] (fun u wu => ∃ v qn : Nat, v ≤ all.length ∧ u = .int .i64 v ∧ wu = wj.drewN qn) (fun u _ => all.length - (intOf u).toNat)
                          case atStart => exact ⟨0, 0, Nat.zero_le _, rfl, rfl⟩
                          case round =>
                            obtain ⟨v, qn, hv, rfl, rfl⟩ := hrel
                            by_cases hvl : v < all.length
                            · obtain ⟨bF, oF, rfl, _, hbF, jp1, jp2, p0, p1, _, _⟩ := (hown.sl (tg := true)).slot_at hvl
                              have hpq : all.getD v default ≠ q := fun e => HFRB.out (by rw [← e, List.getD_eq_getElem?_getD, List.getElem?_eq_getElem hvl]; exact List.getElem_mem hvl)
                              have hcF : all.length ≤ d := hown.le.1
                              generalize all.getD v default = pp at *
                              have hq : ∀ W : World, (Op.equalIn 10000 104 (.agg #[.int .i64 pp.disk, .int .i64 pp.pos]) (.agg #[.int .i64 q.disk, .int .i64 q.pos])).run Try.prog W = .ok false W := fun W => by rw [eqv_Slot, decide_eq_false hpq]
                              have hqg := eqg_Slot
                              clear hpq
                              go_wp2
                              go_quiet (fail)
                              go_wp2
                              go_roundw
                              case rel => exact ⟨v + 1, _, by omega, by go_num, rfl⟩
                              case measure => simp [intOf]; omega
                            · have hdd : Below wj.heap.size wj (wj.drewN qn) := below_drewN (Below.refl _ _) _
                              generalize wj.drewN qn = wd at *
                              have c1d := HCELL.out wd (HBj.out.trans (hdd.mono HBj.out.size))
                              have r0d := (hdd.cell (p := ⟨bR, oR + b * 2, none⟩) hbr).trans r0
                              have r1d := (hdd.cell (p := ⟨bR, oR + b * 2 + 1, none⟩) hbr).trans r1
                              have hald : Below wj.heap.size wj (wd.alloc (.cells #[.int .i64 q.disk, .int .i64 q.pos] 104)) := hdd.alloc hdd.size _
                              have HO2 := Lib.hid (HOj.out.all hald)
                              have HB2 := Lib.hid (HBj.out.trans (hald.mono HBj.out.size))
                              have hw10 := HBj.out.size
                              have hsd := hdd.size
                              have hsa := HB2.out.size
                              clear hdd hald hown HFRB c1 r0 r1
                              go_wp2_with (at_builtin; refine wpList_append1 rfl (.tmp 140) (.tmp 148) 71 rfl i0 (.agg #[.int .i64 0, .int .i64 0]) 16 Try.underlying71 hi0 hz0 hz1 hz2 rfl (by decide) rfl HO2.out wd.heap.size 104 1 _ q rfl (heap_alloc_new _ _) ⟨rfl, jq1, jq2⟩ (by omega) (by omega) (by omega) ?_)
                              intro A5 c5 w5 hown5 hg5 hat5
                              have HB5 := Lib.hid (HB2.out.grown hg5 (by first | exact HB2.out.size | omega) (fun r hr => (HOj.out.lt r hr).1))
                              have HO5 := Lib.hid hown5
                              clear hown5 hg5 hat5 HO2 HB2
                              go_wp2
                              exact ⟨⟨b + 1, A5, c5, by omega, by go_num, by rw [HNX.out, List.length_append]; rfl, HB5, by rw [HNX.out]; exact Lib.hid (by rw [List.length_append]; exact HO5.out)⟩, by simp [intOf]; omega⟩
                        · obtain rfl : b = nr := by omega
                          go_wp2
                          exact ⟨⟨a + 1, F, d, by omega, by go_num, by rw [HSN.out, List.take_of_length_le (by rw [HRn.out]; exact Nat.le_refl _)], HBj, by rw [HSN.out]; rw [List.take_of_length_le (by rw [HRn.out]; exact Nat.le_refl _)] at HOj; exact HOj⟩, by simp [intOf]; omega⟩
                    · go_wp2
                      exact ⟨⟨kk + 1, by omega, by go_num, HBz⟩, by simp [intOf]; omega⟩
                    · go_wp2
                      exact ⟨⟨kk + 1, by omega, by go_num, HBz⟩, by simp [intOf]; omega⟩
            · go_wp2
              exact ⟨⟨ka + 1, by omega, by go_num, Lib.hid (HBb.out.trans (HBk.out.mono HBb.out.size))⟩, by simp [intOf]; omega⟩
        · have hmr : mostR s p.x = (0, 1) := by unfold mostR; rw [if_neg hg]
          rw [hmr] at HMO
          clear hg hmr
          go_wp2_with fail
          refine HMO.out.mono ?_
          clear HMO y0 y1 y2 y3 k0 k1 k2
          rintro r w5 ⟨rfl, hb5⟩
          have HB5 := Lib.hid hb5; clear hb5
          go_wp2_with fail
          refine num18_c.mono ?_
          rintro r w6 ⟨rfl, hb6⟩
          have HBf := Lib.hid (HBb.out.trans ((HB5.out.trans (hb6.mono HB5.out.size)).mono HBb.out.size)); clear hb6 HB5
          go_wp2
          exact ⟨⟨ka + 1, by omega, by go_num, HBf⟩, by simp [intOf]; omega⟩
      · go_wp2_with fail
        refine heavy4_e.mono ?_
        clear y0 y1 y2 y3
        rintro r w5 ⟨rfl, hb5⟩
        have HB5 := Lib.hid (HBo.out.trans (hb5.mono HBo.out.size)); clear hb5
        go_wp2_with fail
        refine heavy11_e.mono ?_
        rintro r w6 ⟨rfl, hb6⟩
        have HB6 := Lib.hid (HB5.out.trans (hb6.mono HB5.out.size)); clear hb6 HB5
        go_wp2_with fail
        refine wakes18_c.mono ?_
        rintro r w7 ⟨rfl, hb7⟩
        have HB7 := Lib.hid (HAL.out _ (HB6.out.trans (hb7.mono HB6.out.size))); clear hb7 HB6
        go_wp2
        go_ret
        exact ⟨by trivial, HB7.out⟩
      · go_wp2_with fail
        refine heavy4_e.mono ?_
        clear y0 y1 y2 y3
        rintro r w5 ⟨rfl, hb5⟩
        have HB5 := Lib.hid (HBo.out.trans (hb5.mono HBo.out.size)); clear hb5
        go_wp2_with fail
        refine heavy11_e.mono ?_
        rintro r w6 ⟨rfl, hb6⟩
        have HB6 := Lib.hid (HB5.out.trans (hb6.mono HB5.out.size)); clear hb6 HB5
        go_wp2_with fail
        refine wakes18_c.mono ?_
        rintro r w7 ⟨rfl, hb7⟩
        have HB7 := Lib.hid (HAL.out _ (HB6.out.trans (hb7.mono HB6.out.size))); clear hb7 HB6
        go_wp2
        go_ret
        exact ⟨by trivial, HB7.out⟩
end Go.Proofs.Ytfccghfcilccfaa
