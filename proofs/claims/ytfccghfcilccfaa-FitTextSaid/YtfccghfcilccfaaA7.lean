/- siloref11.Take: the page's own taking is the sorted list's beginning. -/
import Derived.Test.YtfccghfcilccfaaA6
namespace Go.Proofs.Ytfccghfcilccfaa
open Go.RowKit Go.Silo

theorem inOf_ge {l : List Int} {a : Int} (h : a ∈ l) : 0 ≤ inOf l a := inOf_nonneg (by simpa using h)
theorem inOf_not {l : List Int} {a : Int} (h : a ∉ l) : inOf l a = -1 := inOf_neg (by simpa using h)

/-- The length that a value bears. -/
def lenOf' : Value → Nat
  | .slice _ n _ => n
  | _ => 0
/-- What the page's Take answers. -/
def refTakeR (x : SlotsD) (n : Nat) (not : List Int) : List Slot × SlotsD × Int := if takeErr x n not = 0 then (takeL x n not, takeX x n not, 0) else ([], ⟨[], []⟩, takeErr x n not)

/-- The worlds between the steps of 'x.Free[best] = CopyNumbers(x.Free[best][1:])'. -/
def WdTake (W5 : World) (b1 o1 : Nat) (l : List Int) : List Value → World → Prop
  | [], w' => w' = W5.drew
  | [u], w' => ∃ AR m cR, u = .slice AR m cR ∧ Own 3 intE w' W5.heap.size (fun _ => False) AR m cR l ∧ Below W5.heap.size W5 w'
  | _, w' => ∃ w6 AR m cR, Own 3 intE w6 W5.heap.size (fun _ => False) AR m cR l ∧ Below W5.heap.size W5 w6 ∧ w' = w6.setCell ⟨b1, o1, none⟩ (.slice AR m cR)

set_option maxRecDepth 100000 in
set_option maxHeartbeats 16000000 in
theorem refTake_c {tg tg2 : Bool} {T : TypeId} {S S2 : Nat → Prop} {w : World} {A0 A1 A2 : Option Addr} {n0 c0 n1 c1 n2 c2 : Nat} {x : SlotsD} {not : List Int} {n : Nat} (hx : SlotsOk x) (hn1 : 1 ≤ n) (hn12 : n ≤ 14) (hn2 : n2 ≤ 10000000)
    (h0 : Sl tg 4 boolE w S A0 n0 c0 x.live) (h1 : Sl tg 52 (slE tg 3 intE) w S A1 n1 c1 x.free) (h2 : Sl tg2 T intE w S2 A2 n2 c2 not) :
    Calls Try.prog 111 #[.agg #[.slice A0 n0 c0, .slice A1 n1 c1], .int .i64 (n : Int), .slice A2 n2 c2] w (RetLSE w (refTakeR x n not)) := by
  have HL0 := Lib.hid h0.len
  have HL1 := Lib.hid h1.len
  have HL2 := Lib.hid h2.len
  have hx2 := hx.most
  have hx3 := hx.same
  have e0 := HL0.out
  have e1 := HL1.out
  have hn0' : n0 ≤ 12 := by omega
  have hn1' : n1 = n0 := by omega
  have HF : Hid (∀ l ∈ x.free, l.length ≤ 64) := Lib.hid (fun l hl => pigeon (hx.free l hl))
  have hcopy0 : ∀ l ∈ x.free, l.length ≤ 100000000 := fun l hl => by have := HF.out l hl; omega
  have HRR : Hid (refTakeR x n not = if takeErr x n not = 0 then (takeL x n not, takeX x n not, 0) else ([], ⟨[], []⟩, takeErr x n not)) := Lib.hid rfl
  generalize refTakeR x n not = R at *
  clear hx2 hx3 e0 e1 hx
  subst hn1'
  have hb1 : Below w.heap.size w ((w.alloc (.cells #[.slice A0 n1 c0, .slice A1 n1 c1] 62)).alloc (.cells #[.slice none 0 0, .slice none 0 0] 62)) := (by repeat' (first | (with_reducible exact Below.refl _ _) | (with_reducible refine Below.alloc ?_ ?_ _) | (with_reducible refine Below.drew ?_) | (with_reducible refine below_drewN ?_ _) | (with_reducible refine Below.setCell ?_ ?_ _) | (refine via ?_ (by with_reducible assumption) ?_) | (refine via ?_ (below_ext _ _) ?_) | go_size))
  have hbox1 := alloc2' w (.cells #[.slice none 0 0, .slice none 0 0] 62) #[.slice A0 n1 c0, .slice A1 n1 c1] 62
  have hres1 := alloc2 w (.cells #[.slice A0 n1 c0, .slice A1 n1 c1] 62) #[.slice none 0 0, .slice none 0 0] 62
  have hz1 : ((w.alloc (.cells #[.slice A0 n1 c0, .slice A1 n1 c1] 62)).alloc (.cells #[.slice none 0 0, .slice none 0 0] 62)).heap.size = w.heap.size + 2 := by simp
  have hcopy := CopySlots_c (h0.all hb1) (h1.all hb1) (by omega) (by omega) hcopy0
  clear hcopy0
  go_enter Try.func111, Try.ntmps111
  go_wp2_with fail
  refine hcopy.mono ?_
  clear hcopy
  generalize ((w.alloc (.cells #[.slice A0 n1 c0, .slice A1 n1 c1] 62)).alloc (.cells #[.slice none 0 0, .slice none 0 0] 62)) = w1 at *
  have z0 : w.heap.size < w1.heap.size := by omega
  have z1 : w.heap.size + 1 < w1.heap.size := by omega
  rintro e w2 ⟨vs, rfl, ⟨A3, n3, c3, A4, n4, c4, rfl, _, hs0, hs1⟩, hb2⟩
  obtain rfl : n3 = n1 := by have := hs0.len; have := HL0.out; omega
  obtain rfl : n4 = n3 := by have := hs1.len; have := HL1.out; omega
  have hw2 := (hb2.block _ z0).trans hbox1
  have hr2 := (hb2.block _ z1).trans hres1
  have p0 := (cell_of_row w2 w.heap.size 0 _ _ _ hw2).trans (show _ = some (Value.slice A0 n4 c0) from rfl)
  have p1 := (cell_of_row w2 w.heap.size 1 _ _ _ hw2).trans (show _ = some (Value.slice A1 n4 c1) from rfl)
  have p2 := frozen_of_row w2 w.heap.size 0 _ _ hw2
  have p3 := frozen_of_row w2 w.heap.size 1 _ _ hw2
  have HW : Hid (((w2.setCell ⟨w.heap.size, 0, none⟩ (.slice A3 n4 c3)).setCell ⟨w.heap.size, 1, none⟩ (.slice A4 n4 c4)).heap[w.heap.size]? = some (.cells #[.slice A3 n4 c3, .slice A4 n4 c4] 62 (0, 0))) := Lib.hid (row_set2 hw2)
  have HRS : Hid (((w2.setCell ⟨w.heap.size, 0, none⟩ (.slice A3 n4 c3)).setCell ⟨w.heap.size, 1, none⟩ (.slice A4 n4 c4)).heap[w.heap.size + 1]? = some (.cells #[.slice none 0 0, .slice none 0 0] 62 (0, 0))) := Lib.hid (by rw [Below.heap_setCell _ _ _ _ (by simp), Below.heap_setCell _ _ _ _ (by simp)]; exact hr2)
  have hk : Keeps (fun b => w1.heap.size ≤ b) w2 ((w2.setCell ⟨w.heap.size, 0, none⟩ (.slice A3 n4 c3)).setCell ⟨w.heap.size, 1, none⟩ (.slice A4 n4 c4)) := (by repeat' (first | (with_reducible exact Keeps.refl _ _) | (with_reducible refine Keeps.alloc ?_ _) | (with_reducible refine Keeps.drew ?_) | (with_reducible refine Keeps.drewN ?_ _) | (with_reducible refine Keeps.setCell ?_ ?_ _) | (refine Keeps.call ?_ (by with_reducible assumption)) | (with_reducible refine Keeps.ext ?_ _) | (simp; done) | (simp; omega) | omega))
  have HBW : Hid (Below w.heap.size w ((w2.setCell ⟨w.heap.size, 0, none⟩ (.slice A3 n4 c3)).setCell ⟨w.heap.size, 1, none⟩ (.slice A4 n4 c4))) := Lib.hid (by repeat' (first | (with_reducible exact Below.refl _ _) | (with_reducible refine Below.alloc ?_ ?_ _) | (with_reducible refine Below.drew ?_) | (with_reducible refine below_drewN ?_ _) | (with_reducible refine Below.setCell ?_ ?_ _) | (refine via ?_ (by with_reducible assumption) ?_) | (refine via ?_ (below_ext _ _) ?_) | go_size))
  have H0 : Hid (Sl true 4 boolE ((w2.setCell ⟨w.heap.size, 0, none⟩ (.slice A3 n4 c3)).setCell ⟨w.heap.size, 1, none⟩ (.slice A4 n4 c4)) (fun b => w.heap.size + 2 ≤ b ∧ b < ((w2.setCell ⟨w.heap.size, 0, none⟩ (.slice A3 n4 c3)).setCell ⟨w.heap.size, 1, none⟩ (.slice A4 n4 c4)).heap.size) A3 n4 c3 x.live) := Lib.hid (((hs0.keep hk).lt_block).mono (fun b hb _ => ⟨by have : w1.heap.size ≤ b := hb.1; omega, hb.2⟩))
  have H1 : Hid (Sl true 52 (slE true 3 intE) ((w2.setCell ⟨w.heap.size, 0, none⟩ (.slice A3 n4 c3)).setCell ⟨w.heap.size, 1, none⟩ (.slice A4 n4 c4)) (fun b => w.heap.size + 2 ≤ b ∧ b < ((w2.setCell ⟨w.heap.size, 0, none⟩ (.slice A3 n4 c3)).setCell ⟨w.heap.size, 1, none⟩ (.slice A4 n4 c4)).heap.size) A4 n4 c4 x.free) := Lib.hid (((hs1.keep hk).lt_block).mono (fun b hb _ => ⟨by have : w1.heap.size ≤ b := hb.1; omega, hb.2⟩))
  have zW : w.heap.size + 2 ≤ ((w2.setCell ⟨w.heap.size, 0, none⟩ (.slice A3 n4 c3)).setCell ⟨w.heap.size, 1, none⟩ (.slice A4 n4 c4)).heap.size := by have := hb2.size; simp; omega
  clear hw2 hr2 hbox1 hres1 hk hs0 hs1 hb1 hb2
  go_upto_region 2 with (fail)
  clear p0 p1 p2 p3
  generalize ((w2.setCell ⟨w.heap.size, 0, none⟩ (.slice A3 n4 c3)).setCell ⟨w.heap.size, 1, none⟩ (.slice A4 n4 c4)) = W at *
  clear z0 z1 hz1
  have HNW : Hid (Sl tg2 T intE W S2 A2 n2 c2 not) := Lib.hid (h2.all HBW.out)
  clear h0 h1 h2
  go_wp2_with fail
  go_loopw [9, 10, 11] (fun s f iv wr => ∃ k : Nat, k ≤ n4 ∧ iv = .int .i64 k ∧ s = .int .i64 ((candTo x.live not k).length : Nat) ∧ f = .int .i64 ((withRoom x (candTo x.live not k)).length : Nat) ∧ Below W.heap.size W wr) (fun _ _ iv _ => n4 - (intOf iv).toNat)
  case atStart => exact ⟨0, Nat.zero_le _, rfl, rfl, rfl, Below.refl _ _⟩
  case round =>
    rename World => wo
    obtain ⟨k, hk, rfl, rfl, rfl, hBo⟩ := hrel
    have so := hBo.size
    have hwo := (hBo.block w.heap.size (by omega)).trans HW.out
    have p0 := (cell_of_row wo w.heap.size 0 _ _ _ hwo).trans (show _ = some (Value.slice A3 n4 c3) from rfl)
    have p1 := (cell_of_row wo w.heap.size 1 _ _ _ hwo).trans (show _ = some (Value.slice A4 n4 c4) from rfl)
    have HWO := Lib.hid hwo; clear hwo
    have HBO := Lib.hid hBo; clear hBo
    have hcl := candTo_len x.live not k
    have hfl : (withRoom x (candTo x.live not k)).length ≤ (candTo x.live not k).length := List.length_filter_le _ _
    by_cases hlt : k < n4
    · have hsucc := candTo_succ x.live not k
      obtain ⟨b0, off0, rfl, _, _, l0, _⟩ := (H0.out.all HBO.out).bool_at hlt
      generalize hlv : x.live.getD k false = lv at *
      have HLV := Lib.hid hlv; clear hlv
      cases lv with
      | false =>
        have HSUC : Hid (candTo x.live not (k + 1) = candTo x.live not k) := Lib.hid (by rw [hsucc, if_neg (by simp)]; simp)
        clear hsucc
        generalize candTo x.live not k = cl at *
        generalize hwc : (withRoom x cl).length = wc at *
        generalize hcc : cl.length = cc at *
        have HWC := Lib.hid hwc; clear hwc
        have HCC := Lib.hid hcc; clear hcc
        go_wp2
        go_roundw
        case rel => exact ⟨k + 1, by omega, by go_num, by rw [HSUC.out, HCC.out], by rw [HSUC.out, HWC.out], HBO.out⟩
        case measure => simp [intOf]; omega
      | true =>
        have hin := In_c (w := wo) (x := (k : Int)) (HNW.out.all HBO.out)
        by_cases hm : (k : Int) ∈ not
        · have HSUC : Hid (candTo x.live not (k + 1) = candTo x.live not k) := Lib.hid (by rw [hsucc, if_neg (fun h => h.2 hm)]; simp)
          have hio := inOf_ge hm
          clear hsucc
          generalize inOf not (k : Int) = io at *
          generalize candTo x.live not k = cl at *
          generalize hwc : (withRoom x cl).length = wc at *
          generalize hcc : cl.length = cc at *
          have HWC := Lib.hid hwc; clear hwc
          have HCC := Lib.hid hcc; clear hcc
          go_wp2_with fail
          refine hin.mono ?_
          clear hin
          rintro e w5 ⟨rfl, hb5⟩
          have HB5 := Lib.hid hb5; clear hb5
          go_wp2
          go_roundw
          case rel => exact ⟨k + 1, by omega, by go_num, by rw [HSUC.out, HCC.out], by rw [HSUC.out, HWC.out], HBO.out.trans (HB5.out.mono so)⟩
          case measure => simp [intOf]; omega
        · have HSUC : Hid (candTo x.live not (k + 1) = candTo x.live not k ++ [(k : Int)]) := Lib.hid (by rw [hsucc, if_pos ⟨by trivial, hm⟩])
          rw [inOf_not hm] at hin
          clear hsucc
          obtain ⟨b1, off1, AR, m, cR, rfl, _, hbl1, hrow, l1, _⟩ := (H1.out.all HBO.out).sl_at hlt
          have hm64 : m ≤ 64 := by have := hrow.len; have := HF.out _ (getD_mem (d := []) (show k < x.free.length by have := HL1.out; omega)); omega
          have HRM : Hid (room x (k : Int) = (m : Int)) := Lib.hid (by unfold room; rw [show ((k : Nat) : Int).toNat = k from rfl, hrow.len])
          clear hrow
          generalize candTo x.live not k = cl at *
          have hw1' : (withRoom x (cl ++ [(k : Int)])).length = (withRoom x cl).length + if 0 < m then 1 else 0 := by
            unfold withRoom
            rw [List.filter_append, List.length_append, List.filter_cons, HRM.out]
            by_cases h : 0 < m
            · rw [if_pos (by simpa using h), if_pos h]; rfl
            · rw [if_neg (by simpa using h), if_neg h]; rfl
          have HW1 := Lib.hid hw1'; clear hw1'
          generalize hwc : (withRoom x cl).length = wc at *
          generalize hcc : cl.length = cc at *
          have HWC := Lib.hid hwc; clear hwc
          have HCC := Lib.hid hcc; clear hcc
          go_wp2_with fail
          refine hin.mono ?_
          clear hin
          rintro e w5 ⟨rfl, hb5⟩
          have q1 := (cell_of_row w5 w.heap.size 1 _ _ _ ((hb5.block w.heap.size (by omega)).trans HWO.out)).trans (show _ = some (Value.slice (some ⟨b1, off1, none⟩) n4 c4) from rfl)
          have m1 := (hb5.cell (p := ⟨b1, off1 + k, none⟩) hbl1).trans l1
          have HB5 := Lib.hid hb5; clear hb5
          clear p0 p1 l0 l1
          by_cases hmp : 0 < m
          · have HW2 : Hid ((withRoom x (cl ++ [(k : Int)])).length = wc + 1) := Lib.hid (by rw [HW1.out, if_pos hmp])
            clear HW1
            go_wp2
            go_roundw
            case rel => exact ⟨k + 1, by omega, by go_num, by rw [HSUC.out, List.length_append, HCC.out]; go_num, by rw [HSUC.out, HW2.out]; go_num, HBO.out.trans (HB5.out.mono so)⟩
            case measure => simp [intOf]; omega
          · obtain rfl : m = 0 := by omega
            have HW2 : Hid ((withRoom x (cl ++ [(k : Int)])).length = wc) := Lib.hid (by rw [HW1.out]; rfl)
            clear HW1
            go_wp2
            go_roundw
            case rel => exact ⟨k + 1, by omega, by go_num, by rw [HSUC.out, List.length_append, HCC.out]; go_num, by rw [HSUC.out, HW2.out], HBO.out.trans (HB5.out.mono so)⟩
            case measure => simp [intOf]; omega
    · obtain rfl : n4 = k := by omega
      have hcands : candTo x.live not n4 = cands x not := by unfold cands; rw [HL0.out]
      rw [hcands]
      have HTE : Hid (takeErr x n not = if (cands x not).length < n then 6 else if (withRoom x (cands x not)).length < n then 5 else 0) := Lib.hid rfl
      clear hcands hcl hfl
      have hrs := (HBO.out.block (w.heap.size + 1) (by omega)).trans HRS.out
      have r0 := (cell_of_row wo (w.heap.size + 1) 0 _ _ _ hrs).trans (show _ = some (Value.slice none 0 0) from rfl)
      have r1 := (cell_of_row wo (w.heap.size + 1) 1 _ _ _ hrs).trans (show _ = some (Value.slice none 0 0) from rfl)
      have r2 := frozen_of_row wo (w.heap.size + 1) 0 _ _ hrs
      have r3 := frozen_of_row wo (w.heap.size + 1) 1 _ _ hrs
      have HRSO := Lib.hid hrs; clear hrs
      by_cases hfew : (cands x not).length < n
      · have HE : Hid (takeErr x n not = 6) := Lib.hid (HTE.out.trans (if_pos hfew))
        generalize (cands x not).length = cl at *
        generalize (withRoom x (cands x not)).length = wl at *
        clear HTE
        go_wp2
        refine bodyPost_ret (v := .tuple #[.slice none 0 0, .agg #[.slice none 0 0, .slice none 0 0], .int .i64 6]) (by simp [results, Try.results111, go_sem, *]; done) rfl ?_
        have hB := HBW.out.trans (HBO.out.mono (by omega))
        exact RetLSE.bad (HRR.out.trans (by rw [HE.out]; rfl)) ((hB.setCell (by simp) _).setCell (by simp) _)
      · by_cases hfull : (withRoom x (cands x not)).length < n
        · have HE : Hid (takeErr x n not = 5) := Lib.hid (HTE.out.trans ((if_neg hfew).trans (if_pos hfull)))
          generalize (cands x not).length = cl at *
          generalize (withRoom x (cands x not)).length = wl at *
          clear HTE
          go_wp2
          refine bodyPost_ret (v := .tuple #[.slice none 0 0, .agg #[.slice none 0 0, .slice none 0 0], .int .i64 5]) (by simp [results, Try.results111, go_sem, *]; done) rfl ?_
          have hB := HBW.out.trans (HBO.out.mono (by omega))
          exact RetLSE.bad (HRR.out.trans (by rw [HE.out]; rfl)) ((hB.setCell (by simp) _).setCell (by simp) _)
        · have HE : Hid (takeErr x n not = 0) := Lib.hid (HTE.out.trans ((if_neg hfew).trans (if_neg hfull)))
          generalize (cands x not).length = cl at *
          generalize (withRoom x (cands x not)).length = wl at *
          clear HTE r0 r1 r2 r3
          have hcp := CopyNumbers_c (HNW.out.all HBO.out) (by omega)
          unfold RetOwn at hcp
          rw [(HNW.out.all HBO.out).len] at hcp
          obtain ⟨i0, hi0, hz0, hz1, hz2⟩ := info_parts Try.info_Int
          obtain ⟨i1, hi1, hy0, hy1, hy2⟩ := info_parts Try.info_Slot
          go_wp2_with fail
          refine hcp.mono ?_
          clear hcp
          rintro e w3 ⟨A5, c5, rfl, hown5, hb5⟩
          have hB3 := HBO.out.trans (hb5.mono so)
          have hti : TI w W.heap.size x n not A3 c3 A4 n4 c4 n2 0 0 0 A5 c5 none 0 w3 :=
            ⟨by simpa using own_base hown5.flatS so, by simpa using Own.nil_, ⟨_, H1.out.all hB3, fun b hb => ⟨hb.1, by have := hB3.size; omega, fun e => by have := (hown5.lt b e.symm).1; omega, by intro e; cases e⟩⟩, H0.out.all hB3, (hb5.block _ (by omega)).trans HWO.out, (hb5.block _ (by omega)).trans HRSO.out,
              HBW.out.trans (hB3.mono (by omega)), hB3.size, zW, fun b _ e => by cases e⟩
          have HTI := Lib.hid hti
          have HBA : Hid (0 < n4 → ∃ b o, A4 = some ⟨b, o, none⟩ ∧ b < W.heap.size) := Lib.hid (fun hn => by obtain ⟨b, o, e, hb, _⟩ := H1.out.2.2.2 hn; exact ⟨b, o, e, hb.2⟩)
          clear hti hown5 hb5 hB3 HWO HRSO HBO so hfew hfull p0 p1 H0 H1 HNW HW HRS
          go_wp2_with fail
          go_loopw [12, 13] (fun us ls wr => ∃ j : Nat, ∃ A5 c5 A6 c6, j ≤ n ∧ us = .slice A5 (n2 + j) c5 ∧ ls = .slice A6 j c6 ∧ TI w W.heap.size x n not A3 c3 A4 n4 c4 n2 j j j A5 c5 A6 c6 wr) (fun _ ls _ => n - lenOf' ls)
          case atStart => exact ⟨0, A5, c5, none, 0, by omega, rfl, rfl, HTI.out⟩
          case round =>
            rename World => wv
            obtain ⟨j, A7, c7, A8, c8, hj, rfl, rfl, hti⟩ := hrel
            have p0 := (cell_of_row wv w.heap.size 0 _ _ _ hti.box).trans (show _ = some (Value.slice A3 n4 c3) from rfl)
            have p1 := (cell_of_row wv w.heap.size 1 _ _ _ hti.box).trans (show _ = some (Value.slice A4 n4 c4) from rfl)
            have zv := hti.size
            have HTV := Lib.hid hti; clear hti
            by_cases hltj : j < n
            · obtain ⟨d, hd⟩ : ∃ d, (chosen x n not)[j]? = some d := ⟨_, List.getElem?_eq_getElem (by rw [chosen_len HE.out]; exact hltj)⟩
              obtain ⟨d0, d1, d2⟩ := chosen_mem (List.mem_of_getElem? hd)
              obtain ⟨d, rfl⟩ := Int.eq_ofNat_of_zero_le d0
              have hdn : d < n4 := by have := HL0.out; omega
              have HBEST : Hid (bestOf (tookX x n not j) (not ++ (chosen x n not).take j) n4 = (d : Int)) := Lib.hid (by
                have := best_chosen HE.out hltj
                rw [HL0.out] at this
                rw [this, List.getD_eq_getElem?_getD, hd]; rfl)
              have hd2 : 0 < (x.free.getD d []).length := by unfold room at d2; rw [show ((d : Nat) : Int).toNat = d from rfl] at d2; omega
              have HD := Lib.hid hd; clear hd
              have HD2 := Lib.hid hd2; clear hd2
              clear d0 d1 d2
              go_wp2_with fail
              go_loopw [14, 15] (fun bv iv wr => ∃ k : Nat, k ≤ n4 ∧ iv = .int .i64 k ∧ bv = .int .i64 (bestOf (tookX x n not j) (not ++ (chosen x n not).take j) k) ∧ Below wv.heap.size wv wr) (fun _ iv _ => n4 - (intOf iv).toNat)
              case atStart => exact ⟨0, Nat.zero_le _, rfl, rfl, Below.refl _ _⟩
              case round =>
                rename World => wu
                obtain ⟨k, hk, rfl, rfl, hBu⟩ := hrel
                have su := hBu.size
                have HTU := Lib.hid (HTV.out.all hBu)
                have q0 := (cell_of_row wu w.heap.size 0 _ _ _ HTU.out.box).trans (show _ = some (Value.slice A3 n4 c3) from rfl)
                have q1 := (cell_of_row wu w.heap.size 1 _ _ _ HTU.out.box).trans (show _ = some (Value.slice A4 n4 c4) from rfl)
                have zu : w.heap.size < wu.heap.size := by omega
                have HBU := Lib.hid hBu; clear hBu
                have hsp := bestOf_spec (tookX x n not j) (not ++ (chosen x n not).take j) k
                by_cases hlt : k < n4
                · have hstep : bestOf (tookX x n not j) (not ++ (chosen x n not).take j) (k + 1) = if Rem (tookX x n not j) (not ++ (chosen x n not).take j) k ∧ (bestOf (tookX x n not j) (not ++ (chosen x n not).take j) k < 0 ∨ room (tookX x n not j) (bestOf (tookX x n not j) (not ++ (chosen x n not).take j) k) < room (tookX x n not j) k) then (k : Int) else bestOf (tookX x n not j) (not ++ (chosen x n not).take j) k := rfl
                  have hrem : Rem (tookX x n not j) (not ++ (chosen x n not).take j) k ↔ (x.live.getD k false = true ∧ (k : Int) ∉ not ++ (chosen x n not).take j ∧ 0 < room (tookX x n not j) k) := Iff.rfl
                  obtain ⟨b0, off0, rfl, _, hbl0, l0, _⟩ := HTU.out.live.bool_at hlt
                  obtain ⟨Sf, f1, _⟩ := HTU.out.free
                  obtain ⟨b1, off1, AR, m, cR, rfl, _, hbl1, hrow, l1, _⟩ := f1.sl_at hlt
                  have hroom : room (tookX x n not j) (k : Int) = (m : Int) := by unfold room; rw [show ((k : Nat) : Int).toNat = k from rfl, hrow.len]
                  have hin := fun X => In_c (w := wu.ext X) (x := (k : Int)) ((HTU.out.used.sl (tg := false)).all (below_ext wu X))
                  have hmcap : m ≤ 9223372036854775807 := Nat.le_trans hrow.le hrow.cap
                  have F1 := Lib.hid f1; clear f1 hrow
                  rw [hroom] at hstep hrem
                  generalize hbk : bestOf (tookX x n not j) (not ++ (chosen x n not).take j) k = bk at *
                  clear hbk
                  generalize hbk1 : bestOf (tookX x n not j) (not ++ (chosen x n not).take j) (k + 1) = bk1 at *
                  have HBK1 := Lib.hid hbk1; clear hbk1
                  generalize hlv : x.live.getD k false = lv at *
                  clear hlv
                  cases lv with
                  | false =>
                    have HN : Hid (bk1 = bk) := Lib.hid (by rw [hstep, if_neg (fun h => by have := hrem.1 h.1; simp at this)])
                    have HC : Hid (∀ X, Calls Try.prog 160 #[.slice A7 (n2 + j) c7, .int .i64 (k : Int)] (wu.ext X) (RetV (.int .i64 (inOf (not ++ (chosen x n not).take j) (k : Int))) (wu.ext X))) := Lib.hid hin
                    have HSP := Lib.hid hsp
                    clear hstep hrem hin hsp p0 p1 hroom
                    go_wp2_with fail
                    have hext := cell_ext wu
                    refine region_ext (by kernel_rfl) (by kernel_rfl) ?_
                    repeat (go_big_quiet_step ((go_at_call 160; exact RetV.ext (HC.out _))))
                    refine wpQuiet_nil ?_
                    rintro _ ⟨X, rfl⟩
                    go_wp2
                    exact ⟨⟨k + 1, by omega, by go_num, by rw [HBK1.out, HN.out], HBU.out.trans ((below_ext wu X).mono su)⟩, by simp [intOf]; omega⟩
                  | true =>
                    by_cases hm : (k : Int) ∈ not ++ (chosen x n not).take j
                    · have HN : Hid (bk1 = bk) := Lib.hid (by rw [hstep, if_neg (fun h => (hrem.1 h.1).2.1 hm)])
                      have hio := inOf_ge hm
                      generalize inOf (not ++ (chosen x n not).take j) (k : Int) = io at *
                      have hdio : decide (io < 0) = false := by simp; omega
                      have HC : Hid (∀ X, Calls Try.prog 160 #[.slice A7 (n2 + j) c7, .int .i64 (k : Int)] (wu.ext X) (RetV (.int .i64 io) (wu.ext X))) := Lib.hid hin
                      have HSP := Lib.hid hsp
                      clear hstep hrem hin hsp p0 p1 hroom hm
                      go_wp2_with fail
                      have hext := cell_ext wu
                      refine region_ext (by kernel_rfl) (by kernel_rfl) ?_
                      repeat (go_big_quiet_step ((go_at_call 160; exact RetV.ext (HC.out _))))
                      refine wpQuiet_nil ?_
                      rintro _ ⟨X, rfl⟩
                      go_wp2
                      exact ⟨⟨k + 1, by omega, by go_num, by rw [HBK1.out, HN.out], HBU.out.trans ((below_ext wu X).mono su)⟩, by simp [intOf]; omega⟩
                    · have HC : Hid (∀ X, Calls Try.prog 160 #[.slice A7 (n2 + j) c7, .int .i64 (k : Int)] (wu.ext X) (RetV (.int .i64 (-1)) (wu.ext X))) := Lib.hid (fun X => by
                        have := hin X
                        rw [inOf_not hm] at this
                        exact this)
                      by_cases hm0 : 0 < m
                      · have hR : Rem (tookX x n not j) (not ++ (chosen x n not).take j) k := hrem.2 ⟨by trivial, hm, by omega⟩
                        rcases hsp with ⟨hb, _⟩ | ⟨bb, hb, hbl, _, _⟩
                        · subst hb
                          have HN : Hid (bk1 = (k : Int)) := Lib.hid (by rw [hstep, if_pos ⟨hR, .inl (by omega)⟩])
                          clear hstep hrem hin p0 p1 hroom hm hR
                          go_wp2_with fail
                          have hext := cell_ext wu
                          refine region_ext (by kernel_rfl) (by kernel_rfl) ?_
                          repeat (go_big_quiet_step ((go_at_call 160; exact RetV.ext (HC.out _))))
                          refine wpQuiet_nil ?_
                          rintro _ ⟨X, rfl⟩
                          go_wp2
                          exact ⟨⟨k + 1, by omega, by go_num, by rw [HBK1.out, HN.out], HBU.out.trans ((below_ext wu X).mono su)⟩, by simp [intOf]; omega⟩
                        · subst hb
                          obtain ⟨b1', off1', AR2, m2, cR2, e, _, _, hrow2, l2, _⟩ := F1.out.sl_at (show bb < n4 by omega)
                          injection e with e; injection e with e1 e2 _; subst e1; subst e2
                          have hroom2 : room (tookX x n not j) (bb : Int) = (m2 : Int) := by unfold room; rw [show ((bb : Nat) : Int).toNat = bb from rfl, hrow2.len]
                          rw [hroom2] at hstep
                          have hm2cap : m2 ≤ 9223372036854775807 := Nat.le_trans hrow2.le hrow2.cap
                          clear hrow2 hroom2
                          have hdb : decide ((bb : Int) < 0) = false := decide_eq_false (by omega)
                          by_cases hmm : m2 < m
                          · have HN : Hid (bk1 = (k : Int)) := Lib.hid (by rw [hstep, if_pos ⟨hR, .inr (by omega)⟩])
                            have hdm : decide ((m2 : Int) < (m : Int)) = true := decide_eq_true (by omega)
                            have hdm2 : decide (m2 < m) = true := decide_eq_true hmm
                            clear hstep hrem hin p0 p1 hroom hm hR
                            go_wp2_with fail
                            have hext := cell_ext wu
                            refine region_ext (by kernel_rfl) (by kernel_rfl) ?_
                            repeat (go_big_quiet_step ((go_at_call 160; exact RetV.ext (HC.out _))))
                            refine wpQuiet_nil ?_
                            rintro _ ⟨X, rfl⟩
                            go_wp2
                            exact ⟨⟨k + 1, by omega, by go_num, by rw [HBK1.out, HN.out], HBU.out.trans ((below_ext wu X).mono su)⟩, by simp [intOf]; omega⟩
                          · have HN : Hid (bk1 = (bb : Int)) := Lib.hid (by rw [hstep, if_neg (fun h => by rcases h.2 with h | h <;> omega)])
                            have hdm : decide ((m2 : Int) < (m : Int)) = false := decide_eq_false (by omega)
                            have hdm2 : decide (m2 < m) = false := decide_eq_false hmm
                            clear hstep hrem hin p0 p1 hroom hm hR
                            go_wp2_with fail
                            have hext := cell_ext wu
                            refine region_ext (by kernel_rfl) (by kernel_rfl) ?_
                            repeat (go_big_quiet_step ((go_at_call 160; exact RetV.ext (HC.out _))))
                            refine wpQuiet_nil ?_
                            rintro _ ⟨X, rfl⟩
                            go_wp2
                            exact ⟨⟨k + 1, by omega, by go_num, by rw [HBK1.out, HN.out], HBU.out.trans ((below_ext wu X).mono su)⟩, by simp [intOf]; omega⟩
                      · obtain rfl : m = 0 := by omega
                        have HN : Hid (bk1 = bk) := Lib.hid (by rw [hstep, if_neg (fun h => by have := (hrem.1 h.1).2.2; simp at this)])
                        have HSP := Lib.hid hsp
                        clear hstep hrem hin hsp p0 p1 hroom hm
                        go_wp2_with fail
                        have hext := cell_ext wu
                        refine region_ext (by kernel_rfl) (by kernel_rfl) ?_
                        repeat (go_big_quiet_step ((go_at_call 160; exact RetV.ext (HC.out _))))
                        refine wpQuiet_nil ?_
                        rintro _ ⟨X, rfl⟩
                        go_wp2
                        exact ⟨⟨k + 1, by omega, by go_num, by rw [HBK1.out, HN.out], HBU.out.trans ((below_ext wu X).mono su)⟩, by simp [intOf]; omega⟩
                · obtain rfl : n4 = k := by omega
                  rw [HBEST.out]
                  clear hsp
                  have hal : Below wu.heap.size wu (wu.alloc (.cells #[.int .i64 (d : Int)] 3)) := (Below.refl _ wu).alloc (Nat.le_refl _) _
                  have HTA := Lib.hid (HTU.out.all hal)
                  have hnj : j ≤ 14 := by omega
                  have hhi := HTU.out.size
                  go_wp2_with (at_builtin; refine wpList_append1 rfl _ _ 52 rfl i0 (.int .i64 0) 8 Try.underlying52 hi0 hz0 hz1 hz2 rfl (by decide) rfl HTA.out.used wu.heap.size 3 1 _ (d : Int) rfl (heap_alloc_new _ _) ⟨rfl, by constructor <;> omega⟩ (by omega) (by omega) (by simp; omega) ?_)
                  intro A9 c9 w4 hown4 hg4 hat4
                  have HT4 := Lib.hid (HTA.out.used1 HD.out (by rw [List.append_assoc]; exact hown4) hg4 (by rw [World.size_alloc]; exact hat4))
                  have s4 := hg4.size
                  rw [World.size_alloc] at s4
                  clear hown4 hg4 hat4 hal HTA q0 q1
                  have q1 := (cell_of_row w4 w.heap.size 1 _ _ _ HT4.out.box).trans (show _ = some (Value.slice A4 n4 c4) from rfl)
                  have zu4 : w.heap.size < w4.heap.size := by omega
                  obtain ⟨Sf, f1, f2⟩ := HT4.out.free
                  obtain ⟨b1, off1, AR, m, cR, rfl, hS1, hbl1, hrow, l1, hfz1⟩ := f1.sl_at hdn
                  have htl : (tookX x n not j).free.getD d [] = x.free.getD d [] := tails_at HD.out
                  rw [htl] at hrow
                  have hm0 : 0 < m := by have := hrow.len; have := HD2.out; omega
                  obtain ⟨br, offr, rfl, _, hblr, hI, hvc, _⟩ := hrow.int_at (k := 0) hm0
                  rw [Nat.add_zero] at hvc
                  have hdI : I64 (d : Int) := ⟨by omega, by omega⟩
                  have hslot : slotOf x (d : Int) = ⟨(d : Int), (x.free.getD d []).getD 0 0⟩ := by unfold slotOf; rw [Int.toNat_natCast]
                  have HSL := Lib.hid hslot; clear hslot
                  have hm64 : m ≤ 100000000 := by
                    have h1 := hrow.len
                    have h2 := HF.out _ (getD_mem (d := []) (show d < x.free.length by have := HL1.out; omega))
                    omega
                  have HROW := Lib.hid hrow; clear hrow
                  clear f1 f2 htl
                  generalize hval : (x.free.getD d []).getD 0 0 = v at *
                  clear hval
                  have hcon : (chosen x n not)[j]? = some (d : Int) := HD.out
                  have hal : Below w4.heap.size w4 (w4.alloc (.cells #[.int .i64 (d : Int), .int .i64 v] 104)) := (Below.refl _ w4).alloc (Nat.le_refl _) _
                  have HTB := Lib.hid (HT4.out.all hal)
                  clear hcon
                  go_wp2_with (at_builtin; refine wpList_append1 rfl _ _ 71 rfl i1 (.agg #[.int .i64 0, .int .i64 0]) 16 Try.underlying71 hi1 hy0 hy1 hy2 rfl (by decide) rfl HTB.out.list w4.heap.size 104 1 _ (slotOf x (d : Int)) rfl (heap_alloc_new _ _) (by rw [HSL.out]; exact ⟨rfl, hdI, hI⟩) (by omega) (by omega) (by simp; omega) ?_)
                  intro A10 c10 w5 hown5 hg5 hat5
                  have HT5 := Lib.hid (HTB.out.list1 HD.out (by rw [List.map_take]; exact hown5) hg5 (by rw [World.size_alloc]; exact hat5))
                  have s5 := hg5.size
                  rw [World.size_alloc] at s5
                  clear hown5 hg5 hat5 hal HTB HT4 HROW q1 l1 hfz1 hvc hbl1 hblr hS1 hI
                  clear zu4
                  obtain ⟨Sf5, g1, g2⟩ := HT5.out.free
                  obtain ⟨b1', off1', AR5, m5, cR5, e5, hS5, hbl5, hrow5, l5, hfz5⟩ := g1.sl_at hdn
                  injection e5 with e5; injection e5 with e51 e52 _; subst e51; subst e52
                  have hb1lt : b1 < W.heap.size := by
                    obtain ⟨b, o, e, hb⟩ := HBA.out (by omega)
                    injection e with e; injection e with e1 _ _; subst e1; exact hb
                  have htl : (tookX x n not j).free.getD d [] = x.free.getD d [] := tails_at HD.out
                  rw [htl] at hrow5
                  clear htl
                  have hm5 : 0 < m5 := by have := hrow5.len; have := HD2.out; omega
                  obtain ⟨br5, or5, rfl, _⟩ := hrow5.int_at (k := 0) hm5
                  have hm564 : m5 ≤ 100000000 := by
                    have h1 := hrow5.len
                    have h2 := HF.out _ (getD_mem (d := []) (show d < x.free.length by have := HL1.out; omega))
                    omega
                  have hc5 := hrow5.le
                  have htail := hrow5.tail hm5 rfl
                  have HTAIL := Lib.hid htail; clear htail hrow5
                  have q1 := (cell_of_row w5 w.heap.size 1 _ _ _ HT5.out.box).trans (show _ = some (Value.slice (some ⟨b1, off1, none⟩) n4 c4) from rfl)
                  have zu5 : w.heap.size < w5.heap.size := by omega
                  clear g1 g2
                  go_wp2_with fail
                  have HCPY : Hid (∀ w6, Below w5.heap.size w5 w6 → Calls Try.prog 65 #[.slice (some (if cR5 = 1 then ⟨br5, or5, none⟩ else ⟨br5, or5 + 1, none⟩)) (m5 - 1) (cR5 - 1)] w6 (RetOwn 3 intE w6 (x.free.getD d []).tail)) := Lib.hid (fun w6 hb => CopyNumbers_c (HTAIL.out.all hb) (by omega))
                  have htl5 : (x.free.getD d []).tail.length = m5 - 1 := HTAIL.out.len
                  generalize htt : (x.free.getD d []).tail = lt at *
                  have HTT := Lib.hid htt; clear htt
                  have cells : ∀ us w6, us.length ≤ 1 → WdTake w5 b1 (off1 + d) lt us w6 → Below w5.heap.size w5 w6 := by
                    intro us w6 hl hW
                    match us, hl, hW with
                    | [], _, hW => obtain rfl : w6 = w5.drew := hW; exact (Below.refl _ w5).drew
                    | [_], _, ⟨_, _, _, _, _, hb⟩ => exact hb
                  have CELLS := Lib.hid cells; clear cells
                  refine region_row (by kernel_rfl) (by kernel_rfl) 137 rfl [124, 125, 126, 127, 128, 129, 130, 131, 132, 133, 134] [9, 11] [(133, 0)]
                    [(124, .pointer (some ⟨w.heap.size, 1, none⟩)), (125, .slice (some ⟨b1, off1, none⟩) n4 c4), (126, .int .i64 (d : Int)), (127, .pointer (some ⟨w.heap.size, 1, none⟩)), (128, .slice (some ⟨b1, off1, none⟩) n4 c4), (129, .int .i64 (d : Int)), (130, .pointer (some ⟨b1, off1 + d, none⟩)), (131, .slice (some ⟨br5, or5, none⟩) m5 cR5), (132, .slice (some (if cR5 = 1 then ⟨br5, or5, none⟩ else ⟨br5, or5 + 1, none⟩)) (m5 - 1) (cR5 - 1)), (134, .pointer (some ⟨b1, off1 + d, none⟩))]
                    (fun _ => 1) [[], [124], [], [], [127], [], [128, 129], [130], [131], [132], [125, 126], [134, 133]] (WdTake w5 b1 (off1 + d) lt) (by kernel_rfl) rfl ⟨?_, ?_, ?_, ?_, ?_, ?_, ?_, ?_, ?_, ?_, ?_, ?_, trivial⟩ ?_
                  · (refine OpOk.rd rfl _ rfl (fun ρ us w6 ho ht hc hl hW => ?_); have e3 := (ho 3 rfl).trans (show _ = (.pointer (some ⟨w.heap.size, 0, none⟩) : Value) from rfl); simp only [execOp, e3]; go_simp; try rfl)
                  · (refine OpOk.rd rfl _ rfl (fun ρ us w6 ho ht hc hl hW => ?_); have e124 := (ht 124 (by decide)).trans (show _ = (.pointer (some ⟨w.heap.size, 1, none⟩) : Value) from rfl); have hB6 := CELLS.out us w6 hl hW; have q1' := (World.cell?_of_block (a := ⟨w.heap.size, 1, none⟩) (hB6.block w.heap.size zu5)).trans q1; simp only [execOp, e124]; go_simp; try rfl)
                  · (refine OpOk.rd rfl _ rfl (fun ρ us w6 ho ht hc hl hW => ?_); have e14 := (ho 14 rfl).trans (show _ = (.int .i64 (d : Int) : Value) from rfl); simp only [execOp, e14]; go_simp; try rfl)
                  · (refine OpOk.rd rfl _ rfl (fun ρ us w6 ho ht hc hl hW => ?_); have e3 := (ho 3 rfl).trans (show _ = (.pointer (some ⟨w.heap.size, 0, none⟩) : Value) from rfl); simp only [execOp, e3]; go_simp; try rfl)
                  · (refine OpOk.rd rfl _ rfl (fun ρ us w6 ho ht hc hl hW => ?_); have e127 := (ht 127 (by decide)).trans (show _ = (.pointer (some ⟨w.heap.size, 1, none⟩) : Value) from rfl); have hB6 := CELLS.out us w6 hl hW; have q1' := (World.cell?_of_block (a := ⟨w.heap.size, 1, none⟩) (hB6.block w.heap.size zu5)).trans q1; simp only [execOp, e127]; go_simp; try rfl)
                  · (refine OpOk.rd rfl _ rfl (fun ρ us w6 ho ht hc hl hW => ?_); have e14 := (ho 14 rfl).trans (show _ = (.int .i64 (d : Int) : Value) from rfl); simp only [execOp, e14]; go_simp; try rfl)
                  · (refine OpOk.rd rfl _ rfl (fun ρ us w6 ho ht hc hl hW => ?_); have e128 := (ht 128 (by decide)).trans (show _ = (.slice (some ⟨b1, off1, none⟩) n4 c4 : Value) from rfl); have e129 := (ht 129 (by decide)).trans (show _ = (.int .i64 (d : Int) : Value) from rfl); simp only [execOp, e128, e129]; go_simp; try rfl)
                  · (refine OpOk.rd rfl _ rfl (fun ρ us w6 ho ht hc hl hW => ?_); have e130 := (ht 130 (by decide)).trans (show _ = (.pointer (some ⟨b1, off1 + d, none⟩) : Value) from rfl); have hB6 := CELLS.out us w6 hl hW; have q1' := (World.cell?_of_block (a := ⟨b1, off1 + d, none⟩) (hB6.block b1 hbl5)).trans l5; simp only [execOp, e130]; go_simp; try rfl)
                  · (refine OpOk.rd rfl _ rfl (fun ρ us w6 ho ht hc hl hW => ?_); have e131 := (ht 131 (by decide)).trans (show _ = (.slice (some ⟨br5, or5, none⟩) m5 cR5 : Value) from rfl); simp only [execOp, Option.map_some, Option.map_none, e131]; go_simp; (by_cases hc : cR5 = 1 <;> simp [hc] <;> rw [if_pos (by omega)] <;> rfl))
                  · refine OpOk.wr (k := 0) rfl (fun A us w6 ho ht hl hW K hK => ?_)
                    obtain rfl : us = [] := List.eq_nil_of_length_eq_zero hl
                    have hB6 := CELLS.out [] w6 (by simp) hW
                    have e132 := (ht 132 (by decide)).trans (show _ = (.slice (some (if cR5 = 1 then ⟨br5, or5, none⟩ else ⟨br5, or5 + 1, none⟩)) (m5 - 1) (cR5 - 1) : Value) from rfl)
                    have hq := HCPY.out w6 hB6
                    unfold RetOwn at hq
                    rw [htl5] at hq
                    have hz6 := hB6.size
                    refine step_call rfl 65 #[.tmp 132] #[52] rfl Try.func65 (by kernel_rfl) (by kernel_rfl) #[.slice (some (if cR5 = 1 then ⟨br5, or5, none⟩ else ⟨br5, or5 + 1, none⟩)) (m5 - 1) (cR5 - 1)] (by simp [e132]) (hq) ?_
                    rintro e w7 ⟨AR, cR7, rfl, hown7, hb7⟩
                    exact ⟨_, rfl, hK _ _ ⟨AR, m5 - 1, cR7, rfl, own_base hown7.flatS hz6, hB6.trans (hb7.mono hz6)⟩⟩
                  · (refine OpOk.rd rfl _ rfl (fun ρ us w6 ho ht hc hl hW => ?_); have e125 := (ht 125 (by decide)).trans (show _ = (.slice (some ⟨b1, off1, none⟩) n4 c4 : Value) from rfl); have e126 := (ht 126 (by decide)).trans (show _ = (.int .i64 (d : Int) : Value) from rfl); simp only [execOp, e125, e126]; go_simp; try rfl)
                  · refine OpOk.wr (k := 1) rfl (fun A us w6 ho ht hl hW K hK => ?_)
                    match us, hl, hW with
                    | [u], _, hW =>
                    have hB6 := CELLS.out [u] w6 (by simp) hW
                    obtain ⟨AR, m7, cR7, rfl, hown7, _⟩ := hW
                    have e134 := (ht 134 (by decide)).trans (show _ = (.pointer (some ⟨b1, off1 + d, none⟩) : Value) from rfl)
                    have e133 := (ht 133 (by decide)).trans (show _ = (.slice AR m7 cR7 : Value) from rfl)
                    have q1' := (World.cell?_of_block (a := ⟨b1, off1 + d, none⟩) (hB6.block b1 hbl5)).trans l5
                    have q3' := (World.frozen?_of_block (a := ⟨b1, off1 + d, none⟩) (hB6.block b1 hbl5)).trans hfz5
                    rw [if_pos (by simp [Region.wanted])]
                    unfold Oper.wp
                    generalize A.eval = ρ at *
                    simp only [execOp, e134, e133]
                    go_simp
                    exact hK undef _ ⟨w6, AR, m7, cR7, hown7, hB6, rfl⟩
                  · intro us w7 hl hW
                    match us, hl, hW with
                    | [u, v], _, hW =>
                    obtain ⟨w6, AR, m7, cR7, hown7, hB6, rfl⟩ := hW
                    rw [← HTT.out] at hown7
                    have HT7 := Lib.hid (HT5.out.free1 HD.out hdn hB6 hown7 hb1lt)
                    clear hown7 hB6
                    simp only [putAll, List.map_cons, List.map_nil, List.foldl_cons, List.foldl_nil, Act.put, List.setIfInBounds_toArray, List.set_cons_succ, List.set_cons_zero]
                    generalize slotVal _ _ [u, v] = sv
                    go_wp2
                    exact ⟨⟨j + 1, A9, c9, A10, c10, by omega, rfl, rfl, HT7.out⟩, by simp [lenOf']; omega⟩
            · obtain rfl : j = n := by omega
              have p2 := (cell_of_row wv (w.heap.size + 1) 0 _ _ _ HTV.out.res).trans (show _ = some (Value.slice none 0 0) from rfl)
              have p3 := (cell_of_row wv (w.heap.size + 1) 1 _ _ _ HTV.out.res).trans (show _ = some (Value.slice none 0 0) from rfl)
              have p4 := frozen_of_row wv (w.heap.size + 1) 0 _ _ HTV.out.res
              have p5 := frozen_of_row wv (w.heap.size + 1) 1 _ _ HTV.out.res
              have p6 := frozen_of_row wv w.heap.size 0 _ _ HTV.out.box
              have p7 := frozen_of_row wv w.heap.size 1 _ _ HTV.out.box
              have hch : (chosen x j not).length = j := chosen_len HE.out
              have HCH := Lib.hid hch; clear hch
              have hin : Hid (RetLSE w R (.returned (.tuple #[.slice A8 j c8, .agg #[.slice A3 n4 c3, .slice A4 n4 c4], .int .i64 0])) ((wv.drew.setCell ⟨w.heap.size + 1, 0, none⟩ (.slice A3 n4 c3)).setCell ⟨w.heap.size + 1, 1, none⟩ (.slice A4 n4 c4))) := Lib.hid (by
                have h := HTV.out
                have s1 := h.size
                have s2 := h.lo
                obtain ⟨Sf, f1, f2⟩ := h.free
                have hr : R = (takeL x j not, takeX x j not, 0) := HRR.out.trans (if_pos HE.out)
                have hblk : ∀ b, b ≠ w.heap.size + 1 → ((wv.drew.setCell ⟨w.heap.size + 1, 0, none⟩ (.slice A3 n4 c3)).setCell ⟨w.heap.size + 1, 1, none⟩ (.slice A4 n4 c4)).heap[b]? = wv.heap[b]? := fun b hb => by rw [Below.heap_setCell _ _ _ _ hb, Below.heap_setCell _ _ _ _ hb]; rfl
                have hl : ((chosen x j not).take j).map (slotOf x) = takeL x j not := by rw [List.take_of_length_le (by rw [HCH.out]; exact Nat.le_refl _)]; rfl
                have hf : (tookX x j not j).free = (takeX x j not).free := by rw [tookX_all HE.out]
                have g1 := h.list.frame (fun b hb _ => hblk b (by
                  rcases hb with hb | hb
                  · exact hb.elim
                  · have := (h.list.lt b hb.symm).1; omega)) (by simp)
                have g2 := h.live.frame (fun b hb _ => hblk b (by omega)) (by simp)
                have g3 := f1.frame (fun b hb _ => hblk b (by have := (f2 b hb).1; omega)) (by simp)
                rw [hl] at g1
                rw [hf] at g3
                rw [hr]
                exact ⟨_, _, _, _, _, _, _, _, _, rfl, (g1.sl (tg := true)).mono (fun b hb _ => by rcases hb with hb | hb; exact hb.elim; omega), g2.mono (fun b hb _ => by omega), g3.mono (fun b hb _ => by have := (f2 b hb).1; omega), (h.below.drew.setCell (by simp) _).setCell (by simp) _⟩)
              go_wp2
              go_region
              go_wp2
              refine bodyPost_ret (v := .tuple #[.slice A8 j c8, .agg #[.slice A3 n4 c3, .slice A4 n4 c4], .int .i64 0]) (by simp [results, Try.results111, go_sem, *]; done) rfl ?_
              exact hin.out
end Go.Proofs.Ytfccghfcilccfaa
