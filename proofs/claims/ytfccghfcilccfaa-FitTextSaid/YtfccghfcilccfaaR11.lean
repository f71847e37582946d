/- siloref16.Fit, siloref16.Most: as fit.Text, fit.Most. -/
import Derived.Test.YtfccghfcilccfaaR7
import Derived.Test.YtfccghfcilccfaaR8
import Derived.Test.YtfccghfcilccfaaA7
import Derived.Test.YtfccghfcilccfaaP6
import Derived.Deep.CutBlock
import Derived.Deep.Cut
namespace Go.Proofs.Ytfccghfcilccfaa
open Go.RowKit Go.Silo
attribute [local go_sem] Oper.semAt_some

/-- What Text answers, by the rounds. -/
theorem textR_ref {s : Shape} {x : SlotsD} {n : Int} {k : Nat} (hs : shapeOk s = true) (hx : SlotsOk x) (h0 : 0 ≤ n) (hn : n ≤ 2000) (hk : s.K + s.M = k) :
    textR s x n = if manyX s n ≠ 0 ∧ 12 < k then ([], ⟨[], []⟩, 1) else if firstErr x k (manyX s n) = 0 then (fitL x k (manyX s n), turnsX x k (manyX s n), 0) else ([], ⟨[], []⟩, firstErr x k (manyX s n)) := by
  have hkk : (s.K + s.M).toNat = k := by omega
  have hmay : shapeOk s = true ∧ slotsOkB x = true ∧ 0 ≤ n ∧ n ≤ 2000 := ⟨hs, slotsOkB_true hx, h0, hn⟩
  generalize hm : manyX s n = m
  by_cases hz : m = 0
  · subst hz
    have hl : layR x (s.K + s.M).toNat (manyX s n) = ([], 0) := by rw [hm]; rfl
    rw [textR_ok hmay (by rw [hl]), hl, hm, hkk, if_neg (by simp), if_pos (by rfl)]
    rfl
  · by_cases hk12 : 12 < k
    · have hl : layR x (s.K + s.M).toNat (manyX s n) = ([], 1) := by rw [hm, hkk]; unfold layR; rw [if_neg hz, if_pos hk12]
      rw [textR_err hmay (by rw [hl]; decide), hl, if_pos ⟨hz, hk12⟩]
    · rw [if_neg (by omega)]
      by_cases hf : firstErr x k m = 0
      · have hl : layR x (s.K + s.M).toNat (manyX s n) = (fitL x k m, 0) := by rw [hm, hkk]; unfold layR; rw [if_neg hz, if_neg hk12, if_pos hf]
        rw [textR_ok hmay (by rw [hl]), hl, hm, hkk, if_pos hf]
      · have hl : layR x (s.K + s.M).toNat (manyX s n) = ([], firstErr x k m) := by rw [hm, hkk]; unfold layR; rw [if_neg hz, if_neg hk12, if_neg hf]
        rw [textR_err hmay (by rw [hl]; exact hf), hl, if_neg hf]
/-- The boxes of Fit behind some rounds. -/
structure FB (w : World) (s : Shape) (x : SlotsD) (k j : Nat) (tg : Bool) (A : Option Addr) (c : Nat) (U0 : Option Addr) (a0 b0 : Nat) (U1 : Option Addr) (a1 b1 : Nat) (W : World) : Prop where
  rs : W.heap[w.heap.size]? = some (.cells #[.int .i64 s.K, .int .i64 s.M, .int .i64 s.size] 23 (0, 0))
  rx : W.heap[w.heap.size + 1]? = some (.cells #[.slice U0 a0 b0, .slice U1 a1 b1] 62 (0, 0))
  rr : W.heap[w.heap.size + 1 + 1]? = some (.cells #[.slice none 0 0, .slice none 0 0] 62 (0, 0))
  u0 : Sl tg 4 boolE W (fun _ => True) U0 a0 b0 (turnsX x k j).live
  u1 : Sl tg 52 (slE tg 3 intE) W (fun _ => True) U1 a1 b1 (turnsX x k j).free
  own : Silo.Own 71 (slE true 104 slotE) W (w.heap.size + 3) (fun b => w.heap.size + 3 ≤ b) A j c (fitL x k j)
  below : Below w.heap.size w W
theorem FB.all {w W W' : World} {s : Shape} {x : SlotsD} {k j : Nat} {tg : Bool} {A : Option Addr} {c : Nat} {U0 : Option Addr} {a0 b0 : Nat} {U1 : Option Addr} {a1 b1 : Nat} (h : FB w s x k j tg A c U0 a0 b0 U1 a1 b1 W) (hb : Below W.heap.size W W') : FB w s x k j tg A c U0 a0 b0 U1 a1 b1 W' :=
  ⟨(hb.block _ (Array.getElem?_eq_some_iff.1 h.rs).1).trans h.rs, (hb.block _ (Array.getElem?_eq_some_iff.1 h.rx).1).trans h.rx, (hb.block _ (Array.getElem?_eq_some_iff.1 h.rr).1).trans h.rr, h.u0.all hb, h.u1.all hb, h.own.all hb, h.below.trans (hb.mono h.below.size)⟩

set_option maxRecDepth 100000 in
set_option maxHeartbeats 8000000 in
theorem refFit_c {tg : Bool} {S : Nat → Prop} {w : World} {A0 A1 : Option Addr} {n0 c0 n1 c1 : Nat} {s : Shape} {x : SlotsD} {n : Int} (hs : shapeOk s = true) (hx : SlotsOk x) (hn0 : 0 ≤ n) (hn : n ≤ 2000)
    (h0 : Sl tg 4 boolE w S A0 n0 c0 x.live) (h1 : Sl tg 52 (slE tg 3 intE) w S A1 n1 c1 x.free) :
    Calls Try.prog 58 #[.agg #[.int .i64 s.K, .int .i64 s.M, .int .i64 s.size], .agg #[.slice A0 n0 c0, .slice A1 n1 c1], .int .i64 n] w (RetLLSE w (textR s x n)) := by
  have hd := hs
  unfold shapeOk at hd
  have hd := of_decide_eq_true hd
  obtain ⟨k1, k2, m1, m2, s1, s2⟩ := hd
  obtain ⟨k, hk⟩ : ∃ k : Nat, s.K + s.M = (k : Int) := ⟨(s.K + s.M).toNat, by omega⟩
  have HREF := Lib.hid (textR_ref hs hx hn0 hn hk)
  have HST := Lib.hid (fun W : World => refStripes6_c (w := W) hs hn0 (by omega : n ≤ 100000))
  have hmz : manyX s n ≠ 0 ↔ 0 < n := by
    have p1 : 1 ≤ s.K * s.size := by have := Int.mul_le_mul k1 s1 (by omega) (by omega); omega
    unfold manyX
    constructor
    · intro h
      rcases (by omega : n = 0 ∨ 0 < n) with rfl | h'
      · exact absurd (by rw [Int.ediv_eq_zero_of_lt (by omega) (by omega)]; rfl) h
      · exact h'
    · intro h e
      have : (1 : Int) ≤ (n + s.K * s.size - 1) / (s.K * s.size) := by
        rw [Int.le_ediv_iff_mul_le (by omega)]; omega
      omega
  have hmb : manyX s n ≤ 2000 := by
    have p1 : 1 ≤ s.K * s.size := by have := Int.mul_le_mul k1 s1 (by omega) (by omega); omega
    unfold manyX
    have : (n + s.K * s.size - 1) / (s.K * s.size) ≤ n := by
      refine Int.le_of_lt_add_one (Int.ediv_lt_of_lt_mul (by omega) ?_)
      have := Int.mul_le_mul_of_nonneg_left p1 hn0
      have e : (n + 1) * (s.K * s.size) = n * (s.K * s.size) + s.K * s.size := by rw [Int.add_mul, Int.one_mul]
      omega
    omega
  generalize manyX s n = m at *
  generalize textR s x n = R at *
  have HXO := Lib.hid (fun j => turnsX_ok hx k j)
  have HKK := Lib.hid hk
  obtain ⟨i1, hi1, hz0, hz1, hz2⟩ := info_parts Try.info_Ss
  clear hs hx s1 s2
  have hal : Below w.heap.size w (((w.alloc (.cells #[.int .i64 s.K, .int .i64 s.M, .int .i64 s.size] 23)).alloc (.cells #[.slice A0 n0 c0, .slice A1 n1 c1] 62)).alloc (.cells #[.slice none 0 0, .slice none 0 0] 62)) := (by repeat' (first | (with_reducible exact Below.refl _ _) | (with_reducible refine Below.alloc ?_ ?_ _) | (with_reducible refine Below.drew ?_) | (with_reducible refine below_drewN ?_ _) | (with_reducible refine Below.setCell ?_ ?_ _) | (refine via ?_ (by with_reducible assumption) ?_) | (refine via ?_ (below_ext _ _) ?_) | go_size))
  have hFB : FB w s x k 0 tg none 0 A0 n0 c0 A1 n1 c1 (((w.alloc (.cells #[.int .i64 s.K, .int .i64 s.M, .int .i64 s.size] 23)).alloc (.cells #[.slice A0 n0 c0, .slice A1 n1 c1] 62)).alloc (.cells #[.slice none 0 0, .slice none 0 0] 62)) := by
    refine ⟨?_, ?_, ?_, (h0.mono (fun _ _ _ => trivial)).all hal, (h1.mono (fun _ _ _ => trivial)).all hal, Silo.Own.nil_, hal⟩
    · rw [Below.heap_alloc _ _ _ (by simp; omega), Below.heap_alloc _ _ _ (by simp)]; exact World.alloc_heap_new _ _
    · rw [Below.heap_alloc _ _ _ (by simp)]
      have := World.alloc_heap_new (w.alloc (.cells #[.int .i64 s.K, .int .i64 s.M, .int .i64 s.size] 23)) (.cells #[.slice A0 n0 c0, .slice A1 n1 c1] 62)
      rwa [World.size_alloc] at this
    · have := World.alloc_heap_new ((w.alloc (.cells #[.int .i64 s.K, .int .i64 s.M, .int .i64 s.size] 23)).alloc (.cells #[.slice A0 n0 c0, .slice A1 n1 c1] 62)) (.cells #[.slice none 0 0, .slice none 0 0] 62)
      rwa [World.size_alloc, World.size_alloc] at this
  have HF := Lib.hid hFB; clear hFB hal h0 h1
  go_enter Try.func58, Try.ntmps58
  go_upto_region 2 with (fail)
  generalize (((w.alloc (.cells #[.int .i64 s.K, .int .i64 s.M, .int .i64 s.size] 23)).alloc (.cells #[.slice A0 n0 c0, .slice A1 n1 c1] 62)).alloc (.cells #[.slice none 0 0, .slice none 0 0] 62)) = w1 at *
  have z0 := cell_of_row _ _ 0 _ _ _ HF.out.rs
  have z1 := cell_of_row _ _ 1 _ _ _ HF.out.rs
  have z2 := cell_of_row _ _ 2 _ _ _ HF.out.rs
  have y0 := cell_of_row _ _ 0 _ _ _ HF.out.rr
  have y1 := cell_of_row _ _ 1 _ _ _ HF.out.rr
  have y2 := frozen_of_row _ _ 0 _ _ HF.out.rr
  have y3 := frozen_of_row _ _ 1 _ _ HF.out.rr
  by_cases hbad : 0 < n ∧ 12 < k
  · have HRR : Hid (R = ([], ⟨[], []⟩, 1)) := Lib.hid (by rw [HREF.out, if_pos ⟨hmz.2 hbad.1, hbad.2⟩])
    have hb1 : 0 < n := hbad.1
    have hb2 : 12 < s.K + s.M := by omega
    clear hbad
    go_wp2
    refine bodyPost_ret (v := .tuple #[.slice none 0 0, .agg #[.slice none 0 0, .slice none 0 0], .int .i64 1]) (by simp [results, Try.results58, go_sem, *]; done) rfl ?_
    have hb := HF.out.below
    exact RetLLSE.bad HRR.out (by repeat' (first | (with_reducible exact Below.refl _ _) | (with_reducible refine Below.alloc ?_ ?_ _) | (with_reducible refine Below.drew ?_) | (with_reducible refine below_drewN ?_ _) | (with_reducible refine Below.setCell ?_ ?_ _) | (refine via ?_ (by with_reducible assumption) ?_) | (refine via ?_ (below_ext _ _) ?_) | go_size))
  · have hRR : R = if firstErr x k m = 0 then (fitL x k m, turnsX x k m, 0) else ([], ⟨[], []⟩, firstErr x k m) := by
      rw [HREF.out, if_neg (fun h => hbad ⟨hmz.1 h.1, h.2⟩)]
    have hkm : m = 0 ∨ k ≤ 12 := by
      rcases Nat.lt_or_ge 12 k with h | h
      · left
        rcases Nat.eq_zero_or_pos m with h' | h'
        · exact h'
        · exact absurd ⟨hmz.1 (by omega), h⟩ hbad
      · exact .inr h
    have HRR := Lib.hid hRR; clear hRR
    have hk1 : 1 ≤ k := by omega
    have hk14 : k ≤ 14 := by omega
    have hbad2 : 0 < n → s.K + s.M ≤ 12 := fun h => by
      rcases Nat.lt_or_ge 12 k with h' | h'
      · exact absurd ⟨h, h'⟩ hbad
      · omega
    clear hbad hmz HREF hkm
    go_cut [23] from 14 to 23 (fun t V => t = .bool false ∧ Hid (Below w1.heap.size w1 V))
    case first =>
      by_cases hpos : 0 < n
      · have hb2 : ¬ 12 < s.K + s.M := by have := hbad2 hpos; omega
        clear hbad2 hk
        go_wp2
        go_meet
        case rel => exact ⟨by trivial, Lib.hid (Below.refl _ _)⟩
      · clear hbad2 hk
        go_wp2
        go_meet
        case rel => exact ⟨by trivial, Lib.hid (Below.refl _ _)⟩
    case rest =>
      rename World => wc
      obtain ⟨rfl, HBc⟩ := hcut
      have HFc := Lib.hid (HF.out.all HBc.out)
      clear z0 z1 z2 y0 y1 y2 y3 hbad2 hk HBc HF
      go_wp2_with fail
      go_loopw [10, 9] (fun i l wr => ∃ j : Nat, ∃ tg A c U0 a0 b0 U1 a1 b1, j ≤ m ∧ i = .int .i64 j ∧ l = .slice A j c ∧ Hid (firstErr x k j = 0) ∧ Hid (FB w s x k j tg A c U0 a0 b0 U1 a1 b1 wr)) (fun i _ _ => m - (intOf i).toNat)
      case atStart => exact ⟨0, tg, none, 0, _, _, _, _, _, _, Nat.zero_le _, rfl, rfl, Lib.hid rfl, HFc⟩
      case round =>
        rename World => wr
        clear HFc
        obtain ⟨j, tg', A, c, U0, a0, b0, U1, a1, b1, hjm, rfl, rfl, HFE, HF⟩ := hrel
        have z0 := cell_of_row _ _ 0 _ _ _ HF.out.rs
        have z1 := cell_of_row _ _ 1 _ _ _ HF.out.rs
        have z2 := cell_of_row _ _ 2 _ _ _ HF.out.rs
        go_wp2_with fail
        refine (HST.out wr).mono ?_
        clear z0 z1 z2
        rintro e w2 ⟨rfl, hb2⟩
        have HF2 := Lib.hid (HF.out.all hb2); clear hb2 HF
        by_cases hlt : j < m
        · have z0 := cell_of_row _ _ 0 _ _ _ HF2.out.rs
          have z1 := cell_of_row _ _ 1 _ _ _ HF2.out.rs
          have x0 := cell_of_row _ _ 0 _ _ _ HF2.out.rx
          have x1 := cell_of_row _ _ 1 _ _ _ HF2.out.rx
          have hcl := refTake_c (w := w2) (n := k) (tg2 := false) (T := 0) (S2 := fun _ => False) (A2 := none) (n2 := 0) (c2 := 0) (not := []) (HXO.out j) hk1 hk14 (by omega) HF2.out.u0 HF2.out.u1 (Sl.nil_ (by omega))
          rw [← HKK.out] at hcl
          have HCL := Lib.hid hcl; clear hcl
          go_wp2_with fail
          refine HCL.out.mono ?_
          clear HCL z0 z1 x0 x1
          rintro e w3 ⟨A', n', c', V0, p0, q0, V1, p1, q1, rfl, sl, v0, v1, hb3⟩
          by_cases he : takeErr (turnsX x k j) k [] = 0
          · have hT : refTakeR (turnsX x k j) k [] = (takeL (turnsX x k j) k [], turnsX x k (j + 1), 0) := by
              unfold refTakeR; rw [if_pos he, turnsX_succ]; unfold stepX; rw [if_pos he]
            rw [hT] at sl v0 v1 ⊢
            dsimp only at sl v0 v1 ⊢
            have HE := Lib.hid he; clear he
            have hl2 := (Array.getElem?_eq_some_iff.1 HF2.out.rr).1
            have HLT := Lib.hid HF2.out.own.lt
            have HF3 := Lib.hid (HF2.out.all hb3)
            have HS3 := Lib.hid (And.intro sl (And.intro v0 v1))
            have h23 := hb3.size
            clear sl v0 v1 hb3 hT HF2
            go_upto_region 8 with (fail)
            have hal : Below w3.heap.size w3 (w3.alloc (.cells #[.slice V0 p0 q0, .slice V1 p1 q1] 62)) := (Below.refl _ _).alloc (Nat.le_refl _) _
            have HR12 := Lib.hid (heap_alloc_new w3 (.cells #[.slice V0 p0 q0, .slice V1 p1 q1] 62))
            have h34 := hal.size
            generalize (w3.alloc (.cells #[.slice V0 p0 q0, .slice V1 p1 q1] 62)) = w4 at *
            have HF4 := Lib.hid (HF3.out.all hal)
            have HS4 := Lib.hid (And.intro (HS3.out.1.all hal) (And.intro (HS3.out.2.1.all hal) (HS3.out.2.2.all hal)))
            generalize w3.heap.size = g12 at *
            clear hal HF3 HS3
            have hal5 : Below w4.heap.size w4 (w4.alloc (.cells #[.slice A' n' c'] 71)) := (Below.refl _ _).alloc (Nat.le_refl _) _
            have HO5 := Lib.hid (HF4.out.own.all hal5)
            have hk2 : (slE true 104 slotE).R (w4.alloc (.cells #[.slice A' n' c'] 71)) (fun b => w.heap.size + 3 ≤ b ∧ some b ≠ ablk A) [.slice A' n' c'] (takeL (turnsX x k j) k []) :=
              ⟨A', n', c', rfl, ((HS4.out.1).mono (fun b hb _ => ⟨by have : w2.heap.size ≤ b := hb; omega, fun e => by have : w2.heap.size ≤ b := hb; have := (HLT.out b e.symm).2; omega⟩)).all hal5⟩
            go_wp2_with (at_builtin; refine wpList_append1 rfl (.tmp 47) (.tmp 49) 67 rfl i1 (.slice none 0 0) 24 Try.underlying67 hi1 hz0 hz1 hz2 rfl (by decide) rfl HO5.out w4.heap.size 71 1 [.slice A' n' c'] _ rfl (World.alloc_heap_new _ _) hk2 (by omega) (by omega) (by simp; omega) ?_)
            intro A5 c5 w6 hown6 hg6 _
            have ck : CK (fun T => T ≠ 71) w4 w6 := (CK.of_below hal5).trans (CK.grown hg6 (fun r e => Silo.Own.shape HO5.out r e) (by simp))
            have HB6 := Lib.hid ((HF4.out.below.trans (hal5.mono HF4.out.below.size)).grown hg6 (by simp; omega) (fun r hr => by have := (HO5.out.lt r hr).1; omega))
            have r12 := ck.row _ _ _ _ (by decide) HR12.out
            have rx6 := ck.row _ _ _ _ (by decide) HF4.out.rx
            have z0 := cell_of_row _ _ 0 _ _ _ r12
            have z1 := cell_of_row _ _ 1 _ _ _ r12
            have y0 := cell_of_row _ _ 0 _ _ _ rx6
            have y1 := cell_of_row _ _ 1 _ _ _ rx6
            have y2 := frozen_of_row _ _ 0 _ _ rx6
            have y3 := frozen_of_row _ _ 1 _ _ rx6
            have cF : CK (fun T => T ≠ 62) w6 ((w6.setCell ⟨w.heap.size + 1, 0, none⟩ (.slice V0 p0 q0)).setCell ⟨w.heap.size + 1, 1, none⟩ (.slice V1 p1 q1)) := (CK.setCell (p := ⟨w.heap.size + 1, 0, none⟩) (shape_of_cells rx6) (by simp) _).trans (CK.setCell (p := ⟨w.heap.size + 1, 1, none⟩) (by rw [shape_setCell]; exact shape_of_cells rx6) (by simp) _)
            have HFF := Lib.hid (show FB w s x k (j + 1) true A5 c5 V0 p0 q0 V1 p1 q1 ((w6.setCell ⟨w.heap.size + 1, 0, none⟩ (.slice V0 p0 q0)).setCell ⟨w.heap.size + 1, 1, none⟩ (.slice V1 p1 q1)) from
              ⟨cF.row _ _ _ _ (by decide) (ck.row _ _ _ _ (by decide) HF4.out.rs), row_set2 rx6, (Below.heap_setCell _ _ _ _ (by simp)).trans ((Below.heap_setCell _ _ _ _ (by simp)).trans (ck.row _ _ _ _ (by decide) HF4.out.rr)),
                ((HS4.out.2.1.ck CKeeps.flat (by decide) ck).ck CKeeps.flat (by decide) cF).mono (fun _ _ _ => trivial), ((HS4.out.2.2.ck (CKeeps.slE CKeeps.flat (by decide)) (by decide) ck).ck (CKeeps.slE CKeeps.flat (by decide)) (by decide) cF).mono (fun _ _ _ => trivial),
                by rw [fitL_succ]; exact Silo.Own.ck (CKeeps.slE CKeeps.flat (by decide)) (by decide) hown6 cF, (HB6.out.setCell (by show w.heap.size ≤ w.heap.size + 1; omega) _).setCell (by show w.heap.size ≤ w.heap.size + 1; omega) _⟩)
            have HFE2 := Lib.hid (firstErr_succ HFE.out HE.out)
            clear ck cF rx6 r12 hown6 hg6 hk2 hal5 HO5 HF4 HS4 HB6
            go_upto_region 6 with (fail)
            clear z0 z1 y0 y1 y2 y3
            generalize ((w6.setCell ⟨w.heap.size + 1, 0, none⟩ (.slice V0 p0 q0)).setCell ⟨w.heap.size + 1, 1, none⟩ (.slice V1 p1 q1)) = wn at *
            go_wp2
            exact ⟨⟨j + 1, true, A5, c5, V0, p0, q0, V1, p1, q1, by omega, by go_num, rfl, HFE2, HFF⟩, by simp [intOf]; omega⟩
          · have hT : refTakeR (turnsX x k j) k [] = ([], ⟨[], []⟩, takeErr (turnsX x k j) k []) := by
              unfold refTakeR; rw [if_neg he]
            rw [hT] at sl v0 v1 ⊢
            have hfm := firstErr_at HFE.out he m hlt
            generalize takeErr (turnsX x k j) k [] = er at *
            have HRE : Hid (R = ([], ⟨[], []⟩, er)) := Lib.hid (by rw [HRR.out, hfm, if_neg he])
            have HF3 := Lib.hid (HF2.out.all hb3)
            clear sl v0 v1 hb3 hT hfm HF2
            have heq : (er != 0) = true := by simp [he]
            clear he
            have hal : Below w3.heap.size w3 (w3.alloc (.cells #[.slice V0 p0 q0, .slice V1 p1 q1] 62)) := (Below.refl _ _).alloc (Nat.le_refl _) _
            have HF4 := Lib.hid (HF3.out.all hal); clear hal HF3
            go_upto_region 8 with (fail)
            generalize (w3.alloc (.cells #[.slice V0 p0 q0, .slice V1 p1 q1] 62)) = w4 at *
            have y0 := cell_of_row _ _ 0 _ _ _ HF4.out.rr
            have y1 := cell_of_row _ _ 1 _ _ _ HF4.out.rr
            have y2 := frozen_of_row _ _ 0 _ _ HF4.out.rr
            have y3 := frozen_of_row _ _ 1 _ _ HF4.out.rr
            go_wp2
            refine bodyPost_ret (v := .tuple #[.slice none 0 0, .agg #[.slice none 0 0, .slice none 0 0], .int .i64 er]) (by simp [results, Try.results58, go_sem, *]; done) rfl ?_
            have hb := HF4.out.below
            exact RetLLSE.bad HRE.out (by repeat' (first | (with_reducible exact Below.refl _ _) | (with_reducible refine Below.alloc ?_ ?_ _) | (with_reducible refine Below.drew ?_) | (with_reducible refine below_drewN ?_ _) | (with_reducible refine Below.setCell ?_ ?_ _) | (refine via ?_ (by with_reducible assumption) ?_) | (refine via ?_ (below_ext _ _) ?_) | go_size))
        · obtain rfl : j = m := by omega
          have hxo := HXO.out j
          have hx2 := hxo.most
          have hx3 := hxo.same
          have e0 := HF2.out.u0.len
          have e1 := HF2.out.u1.len
          have hcl := CopySlots_c (w := w2) HF2.out.u0 HF2.out.u1 (by omega) (by omega) (fun l hl => by have := pigeon (hxo.free l hl); omega)
          have HCL := Lib.hid hcl; clear hcl hxo hx2 hx3 e0 e1
          have HRE : Hid (R = (fitL x k j, turnsX x k j, 0)) := Lib.hid (by rw [HRR.out, if_pos HFE.out])
          have x0 := cell_of_row _ _ 0 _ _ _ HF2.out.rx
          have x1 := cell_of_row _ _ 1 _ _ _ HF2.out.rx
          go_wp2_with fail
          refine HCL.out.mono ?_
          clear HCL x0 x1
          rintro e w3 ⟨vs, rfl, ⟨B0, m0, d0, B1, m1', d1, rfl, _, t0, t1⟩, hb3⟩
          have HF3 := Lib.hid (HF2.out.all hb3)
          have h23 := hb3.size
          have hl2 := (Array.getElem?_eq_some_iff.1 HF2.out.rr).1
          clear hb3 HF2
          have y0 := cell_of_row _ _ 0 _ _ _ HF3.out.rr
          have y1 := cell_of_row _ _ 1 _ _ _ HF3.out.rr
          have y2 := frozen_of_row _ _ 0 _ _ HF3.out.rr
          have y3 := frozen_of_row _ _ 1 _ _ HF3.out.rr
          have HT3 := Lib.hid (And.intro t0 t1); clear t0 t1
          go_wp2
          refine bodyPost_ret (v := .tuple #[.slice A j c, .agg #[.slice B0 m0 d0, .slice B1 m1' d1], .int .i64 0]) (by simp [results, Try.results58, go_sem, *]; done) rfl ?_
          rw [HRE.out]
          have hkk : Keeps (fun b => w.heap.size + 3 ≤ b) w3 ((w3.setCell ⟨w.heap.size + 1 + 1, 0, none⟩ (.slice B0 m0 d0)).setCell ⟨w.heap.size + 1 + 1, 1, none⟩ (.slice B1 m1' d1)) := (by repeat' (first | (with_reducible exact Keeps.refl _ _) | (with_reducible refine Keeps.alloc ?_ _) | (with_reducible refine Keeps.drew ?_) | (with_reducible refine Keeps.drewN ?_ _) | (with_reducible refine Keeps.setCell ?_ ?_ _) | (refine Keeps.call ?_ (by with_reducible assumption)) | (with_reducible refine Keeps.ext ?_ _) | (simp; done) | (simp; omega) | omega))
          have hb := HF3.out.below
          refine ⟨A, j, c, B0, m0, d0, B1, m1', d1, rfl, ?_, ?_, ?_, ?_⟩
          · exact (((HF3.out.own.sl (tg := true)).mono (S' := fun b => w.heap.size + 3 ≤ b) (fun b hb _ => hb.elim id id)).keep hkk).mono (fun b hb _ => by omega)
          · exact ((HT3.out.1.mono (S' := fun b => w.heap.size + 3 ≤ b) (fun b hb _ => by have : w2.heap.size ≤ b := hb; show w.heap.size + 3 ≤ b; omega)).keep hkk).mono (fun b hb _ => by omega)
          · exact ((HT3.out.2.mono (S' := fun b => w.heap.size + 3 ≤ b) (fun b hb _ => by have : w2.heap.size ≤ b := hb; show w.heap.size + 3 ≤ b; omega)).keep hkk).mono (fun b hb _ => by omega)
          · exact (hb.setCell (by show w.heap.size ≤ w.heap.size + 1 + 1; omega) _).setCell (by show w.heap.size ≤ w.heap.size + 1 + 1; omega) _

/-- The boxes of Most behind some rounds. -/
structure GB (w : World) (s : Shape) (x : SlotsD) (k j : Nat) (tg : Bool) (U0 : Option Addr) (a0 b0 : Nat) (U1 : Option Addr) (a1 b1 : Nat) (W : World) : Prop where
  rs : W.heap[w.heap.size]? = some (.cells #[.int .i64 s.K, .int .i64 s.M, .int .i64 s.size] 23 (0, 0))
  rx : W.heap[w.heap.size + 1]? = some (.cells #[.slice U0 a0 b0, .slice U1 a1 b1] 62 (0, 0))
  u0 : Sl tg 4 boolE W (fun _ => True) U0 a0 b0 (turnsX x k j).live
  u1 : Sl tg 52 (slE tg 3 intE) W (fun _ => True) U1 a1 b1 (turnsX x k j).free
  below : Below w.heap.size w W
theorem GB.all {w W W' : World} {s : Shape} {x : SlotsD} {k j : Nat} {tg : Bool} {U0 : Option Addr} {a0 b0 : Nat} {U1 : Option Addr} {a1 b1 : Nat} (h : GB w s x k j tg U0 a0 b0 U1 a1 b1 W) (hb : Below W.heap.size W W') : GB w s x k j tg U0 a0 b0 U1 a1 b1 W' :=
  ⟨(hb.block _ (Array.getElem?_eq_some_iff.1 h.rs).1).trans h.rs, (hb.block _ (Array.getElem?_eq_some_iff.1 h.rx).1).trans h.rx, h.u0.all hb, h.u1.all hb, h.below.trans (hb.mono h.below.size)⟩
set_option maxRecDepth 100000 in
set_option maxHeartbeats 8000000 in
theorem refMost_c {tg : Bool} {S : Nat → Prop} {w : World} {A0 A1 : Option Addr} {n0 c0 n1 c1 k : Nat} {s : Shape} {x : SlotsD} (hs : shapeOk s = true) (hx : SlotsOk x) (hk : s.K + s.M = k)
    (h0 : Sl tg 4 boolE w S A0 n0 c0 x.live) (h1 : Sl tg 52 (slE tg 3 intE) w S A1 n1 c1 x.free) :
    Calls Try.prog 61 #[.agg #[.int .i64 s.K, .int .i64 s.M, .int .i64 s.size], .agg #[.slice A0 n0 c0, .slice A1 n1 c1]] w (RetV (.int .i64 (mostX x k 2000 : Nat)) w) := by
  have hd := hs
  unfold shapeOk at hd
  have hd := of_decide_eq_true hd
  obtain ⟨k1, k2, m1, m2, s1, s2⟩ := hd
  have HXO := Lib.hid (fun j => turnsX_ok hx k j)
  have HKK := Lib.hid hk
  have hk1 : 1 ≤ k := by omega
  have hk14 : k ≤ 14 := by omega
  clear hs hx hk s1 s2
  obtain ⟨R, hR⟩ : ∃ R, R = mostX x k 2000 := ⟨_, rfl⟩
  rw [← hR]
  have HR := Lib.hid hR; clear hR
  have hal : Below w.heap.size w ((w.alloc (.cells #[.int .i64 s.K, .int .i64 s.M, .int .i64 s.size] 23)).alloc (.cells #[.slice A0 n0 c0, .slice A1 n1 c1] 62)) := (by repeat' (first | (with_reducible exact Below.refl _ _) | (with_reducible refine Below.alloc ?_ ?_ _) | (with_reducible refine Below.drew ?_) | (with_reducible refine below_drewN ?_ _) | (with_reducible refine Below.setCell ?_ ?_ _) | (refine via ?_ (by with_reducible assumption) ?_) | (refine via ?_ (below_ext _ _) ?_) | go_size))
  have hG : GB w s x k 0 tg A0 n0 c0 A1 n1 c1 ((w.alloc (.cells #[.int .i64 s.K, .int .i64 s.M, .int .i64 s.size] 23)).alloc (.cells #[.slice A0 n0 c0, .slice A1 n1 c1] 62)) := by
    refine ⟨?_, ?_, (h0.mono (fun _ _ _ => trivial)).all hal, (h1.mono (fun _ _ _ => trivial)).all hal, hal⟩
    · rw [Below.heap_alloc _ _ _ (by simp)]; exact World.alloc_heap_new _ _
    · have := World.alloc_heap_new (w.alloc (.cells #[.int .i64 s.K, .int .i64 s.M, .int .i64 s.size] 23)) (.cells #[.slice A0 n0 c0, .slice A1 n1 c1] 62)
      rwa [World.size_alloc] at this
  have HF := Lib.hid hG; clear hG hal h0 h1
  go_enter Try.func61, Try.ntmps61
  go_upto_region 2 with (fail)
  generalize ((w.alloc (.cells #[.int .i64 s.K, .int .i64 s.M, .int .i64 s.size] 23)).alloc (.cells #[.slice A0 n0 c0, .slice A1 n1 c1] 62)) = w1 at *
  go_loopw [5] (fun i wr => ∃ j : Nat, ∃ tg U0 a0 b0 U1 a1 b1, j ≤ 2000 ∧ i = .int .i64 j ∧ Hid (firstErr x k j = 0) ∧ Hid (GB w s x k j tg U0 a0 b0 U1 a1 b1 wr)) (fun i _ => 2000 - (intOf i).toNat)
  case atStart => exact ⟨0, tg, _, _, _, _, _, _, Nat.zero_le _, rfl, Lib.hid rfl, HF⟩
  case round =>
    rename World => wr
    clear HF
    obtain ⟨j, tg', U0, a0, b0, U1, a1, b1, hjm, rfl, HFE, HF⟩ := hrel
    by_cases hlt : j < 2000
    · have z0 := cell_of_row _ _ 0 _ _ _ HF.out.rs
      have z1 := cell_of_row _ _ 1 _ _ _ HF.out.rs
      have x0 := cell_of_row _ _ 0 _ _ _ HF.out.rx
      have x1 := cell_of_row _ _ 1 _ _ _ HF.out.rx
      have hcl := refTake_c (w := wr) (n := k) (tg2 := false) (T := 0) (S2 := fun _ => False) (A2 := none) (n2 := 0) (c2 := 0) (not := []) (HXO.out j) hk1 hk14 (by omega) HF.out.u0 HF.out.u1 (Sl.nil_ (by omega))
      rw [← HKK.out] at hcl
      have HCL := Lib.hid hcl; clear hcl
      go_wp2_with fail
      refine HCL.out.mono ?_
      clear HCL z0 z1 x0 x1
      rintro e w3 ⟨A', n', c', V0, p0, q0, V1, p1, q1, rfl, sl, v0, v1, hb3⟩
      have hal : Below w3.heap.size w3 (w3.alloc (.cells #[.slice V0 p0 q0, .slice V1 p1 q1] 62)) := (Below.refl _ _).alloc (Nat.le_refl _) _
      have HR7 := Lib.hid (heap_alloc_new w3 (.cells #[.slice V0 p0 q0, .slice V1 p1 q1] 62))
      by_cases he : takeErr (turnsX x k j) k [] = 0
      · have hT : refTakeR (turnsX x k j) k [] = (takeL (turnsX x k j) k [], turnsX x k (j + 1), 0) := by
          unfold refTakeR; rw [if_pos he, turnsX_succ]; unfold stepX; rw [if_pos he]
        rw [hT] at v0 v1 ⊢
        dsimp only at v0 v1 ⊢
        have HFE2 := Lib.hid (firstErr_succ HFE.out he); clear he hT sl
        have HF4 := Lib.hid ((HF.out.all hb3).all hal)
        have HV := Lib.hid (And.intro (v0.all hal) (v1.all hal))
        clear v0 v1 hb3 HF hal
        go_upto_region 4 with (fail)
        generalize (w3.alloc (.cells #[.slice V0 p0 q0, .slice V1 p1 q1] 62)) = w4 at *
        have z0 := cell_of_row _ _ 0 _ _ _ HR7.out
        have z1 := cell_of_row _ _ 1 _ _ _ HR7.out
        have y0 := cell_of_row _ _ 0 _ _ _ HF4.out.rx
        have y1 := cell_of_row _ _ 1 _ _ _ HF4.out.rx
        have y2 := frozen_of_row _ _ 0 _ _ HF4.out.rx
        have y3 := frozen_of_row _ _ 1 _ _ HF4.out.rx
        have cF : CK (fun T => T ≠ 62) w4 ((w4.setCell ⟨w.heap.size + 1, 0, none⟩ (.slice V0 p0 q0)).setCell ⟨w.heap.size + 1, 1, none⟩ (.slice V1 p1 q1)) := (CK.setCell (p := ⟨w.heap.size + 1, 0, none⟩) (shape_of_cells HF4.out.rx) (by simp) _).trans (CK.setCell (p := ⟨w.heap.size + 1, 1, none⟩) (by rw [shape_setCell]; exact shape_of_cells HF4.out.rx) (by simp) _)
        have HFF := Lib.hid (show GB w s x k (j + 1) true V0 p0 q0 V1 p1 q1 ((w4.setCell ⟨w.heap.size + 1, 0, none⟩ (.slice V0 p0 q0)).setCell ⟨w.heap.size + 1, 1, none⟩ (.slice V1 p1 q1)) from
          ⟨cF.row _ _ _ _ (by decide) HF4.out.rs, row_set2 HF4.out.rx, (HV.out.1.ck CKeeps.flat (by decide) cF).mono (fun _ _ _ => trivial), (HV.out.2.ck (CKeeps.slE CKeeps.flat (by decide)) (by decide) cF).mono (fun _ _ _ => trivial),
            (HF4.out.below.setCell (by show w.heap.size ≤ w.heap.size + 1; omega) _).setCell (by show w.heap.size ≤ w.heap.size + 1; omega) _⟩)
        clear cF HF4 HV HR7
        go_upto_region 6 with (fail)
        clear z0 z1 y0 y1 y2 y3
        generalize ((w4.setCell ⟨w.heap.size + 1, 0, none⟩ (.slice V0 p0 q0)).setCell ⟨w.heap.size + 1, 1, none⟩ (.slice V1 p1 q1)) = wn at *
        go_wp2
        exact ⟨⟨j + 1, true, V0, p0, q0, V1, p1, q1, by omega, by go_num, HFE2, HFF⟩, by simp [intOf]; omega⟩
      · have hT : refTakeR (turnsX x k j) k [] = ([], ⟨[], []⟩, takeErr (turnsX x k j) k []) := by
          unfold refTakeR; rw [if_neg he]
        rw [hT] at v0 v1 ⊢
        dsimp only at v0 v1 ⊢
        have HRJ := Lib.hid (HR.out.trans (mostX_end (by omega : j ≤ 2000) HFE.out (.inr he)))
        have HB4 := Lib.hid (HF.out.below.trans ((hb3.trans (hal.mono hb3.size)).mono HF.out.below.size))
        generalize takeErr (turnsX x k j) k [] = er at *
        clear sl v0 v1 hb3 hT HF hal HR7
        have heq : (er != 0) = true := by simp [he]
        clear he
        go_upto_region 4 with (fail)
        generalize (w3.alloc (.cells #[.slice V0 p0 q0, .slice V1 p1 q1] 62)) = w4 at *
        go_wp2
        go_ret
        exact ⟨by rw [HRJ.out]; rfl, HB4.out⟩
    · obtain rfl : j = 2000 := by omega
      have HRJ := Lib.hid (HR.out.trans (mostX_end (Nat.le_refl _) HFE.out (.inl rfl)))
      go_wp2
      go_ret
      exact ⟨by rw [HRJ.out]; rfl, HF.out.below⟩
end Go.Proofs.Ytfccghfcilccfaa
