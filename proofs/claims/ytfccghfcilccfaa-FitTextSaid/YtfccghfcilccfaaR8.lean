/- fit.Most: how many stripes go in. -/
import Derived.Test.YtfccghfcilccfaaR6
import Derived.Test.YtfccghfcilccfaaR7
namespace Go.Proofs.Ytfccghfcilccfaa
open Go.RowKit Go.Silo Go.Shelf
attribute [local go_sem] Oper.semAt_some

/-- What Most answers. -/
noncomputable def mostR (s : Shape) (x : SlotsD) : Int × Int := if shapeOk s = true ∧ slotsOkB x = true then ((mostX x (s.K + s.M).toNat 2000 : Int), 0) else (0, 1)

/-- The boxes of Most, behind so many rounds. -/
structure MB (S : Nat → Prop) (w : World) (b6 bs bp g : Nat) (s : Shape) (j : Nat) (W : World) : Prop where
  row6 : W.heap[b6]? = some (.cells #[.int .i64 (j : Int)] 3 (0, 0))
  rs : W.heap[bs]? = some (.cells #[.int .i64 s.K, .int .i64 s.M, .int .i64 s.size] 23 (0, 0))
  rp : W.heap[bp]? = some (.cells #[.pointer (some ⟨g, 0, none⟩)] 165 (0, 0))
  turns : Turns S 52 w W
theorem MB.ck {S : Nat → Prop} {w W W' : World} {b6 bs bp g j : Nat} {s : Shape} {X : TypeId → Prop} (h : MB S w b6 bs bp g s j W) (hk : CK X W W') (ht : Turns S 52 w W') (h5 : X 3) (h6 : X 23) (h7 : X 165) :
    MB S w b6 bs bp g s j W' := ⟨hk.row _ _ _ _ h5 h.row6, hk.row _ _ _ _ h6 h.rs, hk.row _ _ _ _ h7 h.rp, ht⟩

set_option maxRecDepth 100000 in
set_option maxHeartbeats 4000000 in
theorem fitMost_c {tg : Bool} {S : Nat → Prop} {w : World} {A0 A1 : Option Addr} {n0 c0 n1 c1 : Nat} {s : Shape} {x : SlotsD}
    (h0 : Sl tg 4 boolE w S A0 n0 c0 x.live) (h1 : Sl tg 52 (slE tg 3 intE) w S A1 n1 c1 x.free) :
    Calls Try.prog 60 #[.agg #[.int .i64 s.K, .int .i64 s.M, .int .i64 s.size], .agg #[.slice A0 n0 c0, .slice A1 n1 c1]] w (RetV (.tuple #[.int .i64 (mostR s x).1, .int .i64 (mostR s x).2]) w) := by
  have HL0 := Lib.hid h0.len
  have HL1 := Lib.hid h1.len
  have HSM := Lib.hid (fun W (hW : Below w.heap.size w W) => slotsMay_c (w := W) (h0.all hW) (h1.all hW))
  have hbad : ¬ (shapeOk s = true ∧ slotsOkB x = true) → mostR s x = (0, 1) := fun h => by unfold mostR; rw [if_neg h]
  have hgood : (shapeOk s = true ∧ slotsOkB x = true) → mostR s x = ((mostX x (s.K + s.M).toNat 2000 : Int), 0) := fun h => by unfold mostR; rw [if_pos h]
  have hok := @slotsOk_of x
  generalize hr : slotsOkB x = r at *
  have HR := Lib.hid hr; clear hr
  obtain ⟨q, hq⟩ : ∃ q, q = shapeOk s := ⟨_, rfl⟩
  have HQ := Lib.hid hq
  rw [← hq] at hbad hgood
  clear hq
  generalize hR : mostR s x = R at *
  clear hR
  have HB := Lib.hid hbad; clear hbad
  have HG := Lib.hid hgood; clear hgood
  have HK := Lib.hid hok; clear hok
  refine (callsIn_wide (n := 9)).1 ?_
  refine callsIn_of_wp_marks Try.func60 rfl trivial ?_ rfl
  simp only [Try.ntmps60, List.size_toArray, List.length_cons, List.length_nil, Nat.reduceAdd, Nat.reduceSub, Array.replicate_succ, Array.replicate_zero, List.push_toArray, List.append_toArray, List.cons_append, List.nil_append]
  gi_wp2_with fail
  refine ⟨trivial, (callsIn_wide.2 codeMay_c).mono ?_⟩
  rintro e w1 ⟨rfl, hb1⟩
  rw [← HQ.out]
  (obtain ⟨hc_w1, hf_w1⟩ := bcell hb1; have z_w1_0 : w.heap.size < w1.heap.size := (by have := hb1.size; first | omega | (simp at this; omega)); have z_w1_1 : w.heap.size + 1 < w1.heap.size := (by have := hb1.size; first | omega | (simp at this; omega)))
  cases q with
  | false =>
    have HRR : Hid (R = (0, 1)) := Lib.hid (HB.out (fun h => by cases h.1))
    gi_wp2
    refine ⟨trivial, ?_⟩
    gi_wp2
    refine ⟨.tuple #[.int .i64 0, .int .i64 1], by simp [results, Try.results60, go_sem, *]; done, ?_⟩
    exact ⟨by rw [HRR.out], (by repeat' (first | (with_reducible exact Below.refl _ _) | (with_reducible refine Below.alloc ?_ ?_ _) | (with_reducible refine Below.drew ?_) | (with_reducible refine below_drewN ?_ _) | (with_reducible refine Below.setCell ?_ ?_ _) | (refine via ?_ (by with_reducible assumption) ?_) | (refine via ?_ (below_ext _ _) ?_) | go_size))⟩
  | true =>
    gi_wp2_with fail
    refine ⟨trivial, (callsIn_wide.2 (HSM.out _ (by repeat' (first | (with_reducible exact Below.refl _ _) | (with_reducible refine Below.alloc ?_ ?_ _) | (with_reducible refine Below.drew ?_) | (with_reducible refine below_drewN ?_ _) | (with_reducible refine Below.setCell ?_ ?_ _) | (refine via ?_ (by with_reducible assumption) ?_) | (refine via ?_ (below_ext _ _) ?_) | go_size)))).mono ?_⟩
    rintro e w2 ⟨rfl, hb2⟩
    (obtain ⟨hc_w2, hf_w2⟩ := bcell hb2; have z_w2_0 : w.heap.size < w2.heap.size := (by have := hb2.size; first | omega | (simp at this; omega)); have z_w2_1 : w.heap.size + 1 < w2.heap.size := (by have := hb2.size; first | omega | (simp at this; omega)))
    cases r with
    | false =>
      have HRR : Hid (R = (0, 1)) := Lib.hid (HB.out (fun h => by cases h.2))
      gi_wp2
      refine ⟨.tuple #[.int .i64 0, .int .i64 1], by simp [results, Try.results60, go_sem, *]; done, ?_⟩
      exact ⟨by rw [HRR.out], (by repeat' (first | (with_reducible exact Below.refl _ _) | (with_reducible refine Below.alloc ?_ ?_ _) | (with_reducible refine Below.drew ?_) | (with_reducible refine below_drewN ?_ _) | (with_reducible refine Below.setCell ?_ ?_ _) | (refine via ?_ (by with_reducible assumption) ?_) | (refine via ?_ (below_ext _ _) ?_) | go_size))⟩
    | true =>
      have HRR : Hid (R = ((mostX x (s.K + s.M).toNat 2000 : Int), 0)) := Lib.hid (HG.out ⟨by trivial, by trivial⟩)
      clear HB HG
      have hsh := HQ.out.symm
      unfold shapeOk at hsh
      have hd := of_decide_eq_true hsh
      clear hsh
      obtain ⟨k1, k2, m1, m2, s1, s2⟩ := hd
      obtain ⟨k, hk⟩ : ∃ k : Nat, s.K + s.M = (k : Int) := ⟨(s.K + s.M).toNat, by omega⟩
      rw [hk, Int.toNat_natCast] at HRR
      have HKK := Lib.hid hk
      have hk1 : 1 ≤ k := by omega
      have hk14 : k ≤ 14 := by omega
      clear s1 s2 k1 k2 m1 m2 hk
      have hx := HK.out (by trivial)
      have hx2 := hx.most
      have hx3 := hx.same
      have e0 := HL0.out
      have e1 := HL1.out
      have hn0' : n0 ≤ 12 := by omega
      have hn1' : n1 = n0 := by omega
      have HF : Hid (∀ l ∈ x.free, l.length ≤ 100000000) := Lib.hid (fun l hl => by have := pigeon (hx.free l hl); omega)
      clear hx hx2 hx3 e0 e1
      subst hn1'
      gi_wp2_with fail
      refine ⟨trivial, (callsIn_wide.2 (Own_c (h0.all (by repeat' (first | (with_reducible exact Below.refl _ _) | (with_reducible refine Below.alloc ?_ ?_ _) | (with_reducible refine Below.drew ?_) | (with_reducible refine below_drewN ?_ _) | (with_reducible refine Below.setCell ?_ ?_ _) | (refine via ?_ (by with_reducible assumption) ?_) | (refine via ?_ (below_ext _ _) ?_) | go_size))) (h1.all (by repeat' (first | (with_reducible exact Below.refl _ _) | (with_reducible refine Below.alloc ?_ ?_ _) | (with_reducible refine Below.drew ?_) | (with_reducible refine below_drewN ?_ _) | (with_reducible refine Below.setCell ?_ ?_ _) | (refine via ?_ (by with_reducible assumption) ?_) | (refine via ?_ (below_ext _ _) ?_) | go_size))) (by omega) (by omega) HF.out)).mono ?_⟩
      rintro e w3 ⟨vs, rfl, ⟨A3, n3, c3, A4, n4, c4, rfl, _, hs0, hs1⟩, hb3⟩
      obtain rfl : n3 = n1 := by have := hs0.len; have := HL0.out; omega
      obtain rfl : n4 = n3 := by have := hs1.len; have := HL1.out; omega
      (obtain ⟨hc_w3, hf_w3⟩ := bcell hb3; have z_w3_0 : w.heap.size < w3.heap.size := (by have := hb3.size; first | omega | (simp at this; omega)); have z_w3_1 : w.heap.size + 1 < w3.heap.size := (by have := hb3.size; first | omega | (simp at this; omega)))
      gi_wp2_with fail
      have hw3 : w3.heap[w.heap.size + 1]? = some (.cells #[.slice A0 n4 c0, .slice A1 n4 c1] 62 (0, 0)) := by
        rw [hb3.block _ z_w2_1, hb2.block _ z_w1_1, hb1.block _ (by simp)]
        have := World.alloc_heap_new (w.alloc (.cells #[.int .i64 s.K, .int .i64 s.M, .int .i64 s.size] 23)) (.cells #[.slice A0 n4 c0, .slice A1 n4 c1] 62)
        rwa [World.size_alloc] at this
      have hW := row_set2 (u := .slice A3 n4 c3) (v := .slice A4 n4 c4) hw3
      have hk : Keeps (fun b => w2.heap.size ≤ b) w3 ((w3.setCell ⟨w.heap.size + 1, 0, none⟩ (.slice A3 n4 c3)).setCell ⟨w.heap.size + 1, 1, none⟩ (.slice A4 n4 c4)) := (by repeat' (first | (with_reducible exact Keeps.refl _ _) | (with_reducible refine Keeps.alloc ?_ _) | (with_reducible refine Keeps.drew ?_) | (with_reducible refine Keeps.drewN ?_ _) | (with_reducible refine Keeps.setCell ?_ ?_ _) | (refine Keeps.call ?_ (by with_reducible assumption)) | (with_reducible refine Keeps.ext ?_ _) | (simp; done) | (simp; omega) | omega))
      have hBW : Below w.heap.size w ((w3.setCell ⟨w.heap.size + 1, 0, none⟩ (.slice A3 n4 c3)).setCell ⟨w.heap.size + 1, 1, none⟩ (.slice A4 n4 c4)) := (by repeat' (first | (with_reducible exact Below.refl _ _) | (with_reducible refine Below.alloc ?_ ?_ _) | (with_reducible refine Below.drew ?_) | (with_reducible refine below_drewN ?_ _) | (with_reducible refine Below.setCell ?_ ?_ _) | (refine via ?_ (by with_reducible assumption) ?_) | (refine via ?_ (below_ext _ _) ?_) | go_size))
      have hWs : ((w3.setCell ⟨w.heap.size + 1, 0, none⟩ (.slice A3 n4 c3)).setCell ⟨w.heap.size + 1, 1, none⟩ (.slice A4 n4 c4)).heap.size = w3.heap.size := by simp
      have hw2 : w2.heap.size ≤ w3.heap.size := hb3.size
      rw [← hWs]
      rw [← hWs] at hw2
      generalize ((w3.setCell ⟨w.heap.size + 1, 0, none⟩ (.slice A3 n4 c3)).setCell ⟨w.heap.size + 1, 1, none⟩ (.slice A4 n4 c4)) = W at *
      have hX : XS (fun b => w2.heap.size ≤ b ∧ b < W.heap.size) (w.heap.size + 1) A3 n4 c3 A4 n4 c4 x W := ⟨hW, (hs0.keep hk).mono (fun b hb hlt => ⟨hb, hlt⟩), (hs1.keep hk).mono (fun b hb hlt => ⟨hb, hlt⟩)⟩
      have hgW : w.heap.size + 1 < w2.heap.size := z_w2_1
      clear hk hW hw3 hs0 hs1 hWs hc_w1 hc_w2 hc_w3 hf_w1 hf_w2 hf_w3 hb1 hb2 hb3 z_w1_0 z_w1_1 z_w2_0 z_w2_1 z_w3_0 z_w3_1 h0 h1
      refine ⟨trivial, (callsIn_wide.2 stripes_c).mono ?_⟩
      rintro e w4 ⟨rfl, rfl⟩
      obtain ⟨wl, hwl⟩ : ∃ wl, wl = (((W.alloc (.cells #[.int .i64 0] 3)).alloc (.cells #[.int .i64 s.K, .int .i64 s.M, .int .i64 s.size] 23)).alloc (.cells #[.pointer (some ⟨w.heap.size + 1, 0, none⟩)] 165)) := ⟨_, rfl⟩
      have hbl : Below W.heap.size W wl := by rw [hwl]; exact ((Below.refl _ _).alloc (Nat.le_refl _) _ |>.alloc (by simp) _ |>.alloc (by simp; omega) _)
      have q6 : wl.heap[W.heap.size]? = some (.cells #[.int .i64 0] 3 (0, 0)) := by
        rw [hwl, Below.heap_alloc _ _ _ (by simp; omega), Below.heap_alloc _ _ _ (by simp)]
        exact World.alloc_heap_new _ _
      have qs : wl.heap[W.heap.size + 1]? = some (.cells #[.int .i64 s.K, .int .i64 s.M, .int .i64 s.size] 23 (0, 0)) := by
        rw [hwl, Below.heap_alloc _ _ _ (by simp)]
        have := World.alloc_heap_new (W.alloc (.cells #[.int .i64 0] 3)) (.cells #[.int .i64 s.K, .int .i64 s.M, .int .i64 s.size] 23)
        rwa [World.size_alloc] at this
      have qp : wl.heap[W.heap.size + 1 + 1]? = some (.cells #[.pointer (some ⟨w.heap.size + 1, 0, none⟩)] 165 (0, 0)) := by
        rw [hwl]
        have := World.alloc_heap_new ((W.alloc (.cells #[.int .i64 0] 3)).alloc (.cells #[.int .i64 s.K, .int .i64 s.M, .int .i64 s.size] 23)) (.cells #[.pointer (some ⟨w.heap.size + 1, 0, none⟩)] 165)
        rwa [World.size_alloc, World.size_alloc] at this
      have hsz : W.heap.size + 3 = wl.heap.size := by rw [hwl]; simp
      simp only [World.size_alloc]
      rw [← hwl]
      gi_wp2
      obtain ⟨T, hT⟩ : ∃ T : Nat → Prop, T = (fun b => w2.heap.size ≤ b ∧ b < W.heap.size) := ⟨_, rfl⟩
      rw [← hT] at hX
      have hTS : ∀ b, T b → w2.heap.size ≤ b ∧ b < W.heap.size := fun b h => by rw [hT] at h; exact h
      have HTS := Lib.hid hTS; clear hTS hT
      have HQ2 := Lib.hid (show MB T W W.heap.size (W.heap.size + 1) (W.heap.size + 1 + 1) (w.heap.size + 1) s 0 wl from ⟨q6, qs, qp, .of_below hbl⟩)
      have HXL := Lib.hid (hX.all hbl); clear hX
      have HBW := Lib.hid hBW; clear hBW
      clear q6 qs qp hwl
      have hgW2 : w.heap.size + 1 < W.heap.size := by omega
      generalize hgg : w.heap.size + 1 = g at *
      refine rangeFunc_state (α := Value × Value) (encs := fun v => #[v.1, v.2]) rfl (by decide) (gf := 161) (lb := #[.pointer (some ⟨W.heap.size + 1 + 1, 0, none⟩), .pointer (some ⟨W.heap.size + 1, 0, none⟩)]) rfl trivial (enters_of Try.func161 rfl rfl) (fun _ => rfl)
        (Turns T 52) (Keeps (fun b => T b ∨ b = g ∨ b = W.heap.size + 1 ∨ b = W.heap.size + 1 + 1))
        (fun pre v V => (∃ B, wl.heap.size ≤ B ∧ Handed x k B pre v V) ∧ XS T g A3 n4 c3 A4 n4 c4 (turnsX x k (pre.length + 1)) V)
        (fun pre V => pre.length ≤ 2000 ∧ firstErr x k pre.length = 0 ∧ MB T W W.heap.size (W.heap.size + 1) (W.heap.size + 1 + 1) g s pre.length V)
        (fun c pre V => c = .exit 0 ∧ ∃ j, j ≤ 2000 ∧ firstErr x k j = 0 ∧ (j = 2000 ∨ takeErr (turnsX x k j) k [] ≠ 0) ∧ MB T W W.heap.size (W.heap.size + 1) (W.heap.size + 1 + 1) g s j V)
        ?hSt ?hKt ?hKb ?hI ?hIx ?hG ?hIS ?h0 ?hseq ?a1 ?hassign ?hbody ?hstop
      case hSt => exact fun A B h k' o hk' ho _ => (h.block k' (Array.getElem?_eq_some_iff.1 ho).1 (.inl (fun hs => by have := HTS.out _ hs; omega))).trans ho
      case hKt => exact fun h1 h2 => ⟨h1.1.trans h1.2 h2.1, Nat.le_trans h1.2 h2.2⟩
      case hKb =>
        intro V l o hl
        refine ⟨Agree.grown (grownBy_putObj' V l o) (fun b hb e => ?_), (grownBy_putObj' V l o).size⟩
        injection e with e
        rcases hb with hb | hb | hb | hb
        · have := HTS.out _ hb; omega
        all_goals omega
      case hI =>
        intro pre V V' row h hg hr
        exact ⟨h.1, h.2.1, h.2.2.ck (X := fun _ => True) (CK.of_grown hg hr) (h.2.2.turns.grown hg (fun r e => by have := (hr r e).1; omega)) trivial trivial trivial⟩
      case hIx =>
        rintro c pre V V' row ⟨hc, j, j1, j2, j3, h⟩ hg hr
        exact ⟨hc, j, j1, j2, j3, h.ck (X := fun _ => True) (CK.of_grown hg hr) (h.turns.grown hg (fun r e => by have := (hr r e).1; omega)) trivial trivial trivial⟩
      case hG =>
        rintro pre v V V' row ⟨⟨B, hB, hH⟩, hx⟩ hg hr
        have hck := CK.of_grown (X := fun _ => True) hg hr
        exact ⟨⟨B, hB, hH.ck hck trivial⟩, hx.ck hck trivial trivial trivial trivial⟩
      case hIS => exact fun pre A B h st => ⟨h.1, h.2.1, h.2.2.ck (CK.of_turns st) (h.2.2.turns.trans st) (by decide) (by decide) (by decide)⟩
      case h0 => exact ⟨Nat.zero_le _, rfl, HQ2.out⟩
      case hseq =>
        intro l J Jx V hbw hJS hJI hY hJ0
        exact stripes1_in (n := 8) (S := T) (bs := W.heap.size + 1) (bp := W.heap.size + 1 + 1) (g := g) (k := k) (N := 2001) (x := x) l J Jx V hk1 HKK.out (by omega) hn0' rfl
          ((hbw.block _ (by omega)).trans HQ2.out.rs) ((hbw.block _ (by omega)).trans HQ2.out.rp) (HXL.out.all hbw) hJS (fun pre A hj => Nat.lt_succ_of_le (hJI pre A hj).1)
          (fun pre v A hj hB hx => hY pre v A hj ⟨by obtain ⟨B, h1, _, h2⟩ := hB; exact ⟨B, Nat.le_trans hbw.size h1, h2⟩, hx⟩) hJ0
      case a1 => exact fun v => { tmps := #[.agg #[.int .i64 s.K, .int .i64 s.M, .int .i64 s.size], .agg #[.slice A0 n4 c0, .slice A1 n4 c1], .pointer (some ⟨w.heap.size, 0, none⟩), .pointer (some ⟨g, 0, none⟩), .int .i64 0, .int .i64 0, .pointer (some ⟨W.heap.size, 0, none⟩), undef, v.2,
          .agg #[.int .i64 s.K, .int .i64 s.M, .int .i64 s.size], .bool true, .bool false, .bool false, .agg #[.slice A0 n4 c0, .slice A1 n4 c1], .bool true, .bool false, .bool false, .agg #[.slice A0 n4 c0, .slice A1 n4 c1], .agg #[.slice A3 n4 c3, .slice A4 n4 c4],
          .agg #[.int .i64 s.K, .int .i64 s.M, .int .i64 s.size], .func (.func 161) #[] #[.pointer (some ⟨W.heap.size + 1 + 1, 0, none⟩), .pointer (some ⟨W.heap.size + 1, 0, none⟩)], v.1, v.2, undef, undef, undef, undef, undef, undef, undef, undef, undef], defers := [] }
      case hassign =>
        intro l v V K hK
        gi_wp2
        exact hK
      case hbody =>
        have HZ := Lib.hid (show ¬ (T W.heap.size ∨ W.heap.size = g ∨ W.heap.size = W.heap.size + 1 ∨ W.heap.size = W.heap.size + 1 + 1) from by
          rintro (h | h | h | h)
          · have := HTS.out _ h; omega
          all_goals omega)
        rintro l pre ⟨v1, v2⟩ V ⟨hlt, hfe, hM⟩ ⟨⟨B, hBB, hH⟩, hXX⟩
        have z6 := cell_of_row _ _ 0 _ _ _ hM.row6
        have f6 := frozen_of_row _ _ 0 _ _ hM.row6
        have HM := Lib.hid hM; clear hM
        rcases hH with ⟨hne, hv⟩ | ⟨he, A', c', hv, hl, ho'⟩
        · injection hv with hv1 hv2
          subst hv1; subst hv2
          obtain ⟨er, hER⟩ : ∃ er, er = takeErr (turnsX x k pre.length) k [] := ⟨_, rfl⟩
          rw [← hER]
          have hne' : er ≠ 0 := by rw [hER]; exact hne
          have HNE := Lib.hid hne; clear hne hER
          gi_wp2
          exact ⟨KeepsFrom.refl _ _, rfl, pre.length, hlt, hfe, .inr HNE.out, HM.out⟩
        · injection hv with hv1 hv2
          subst hv1; subst hv2
          by_cases hm : pre.length = 2000
          · rw [hm] at z6
            gi_wp2
            exact ⟨KeepsFrom.refl _ _, rfl, pre.length, hlt, hfe, .inl hm, HM.out⟩
          · have HFIN := Lib.hid (fun (v : Value × Value) => (show ∀ Vn, Vn = V.setCell ⟨W.heap.size, 0, none⟩ (.int .i64 ((pre.length : Int) + 1)) →
                KeepsFrom wl.heap.size V Vn ∧ Keeps (fun b => T b ∨ b = g ∨ b = W.heap.size + 1 ∨ b = W.heap.size + 1 + 1) V Vn ∧ (pre ++ [v]).length ≤ 2000 ∧ firstErr x k (pre ++ [v]).length = 0 ∧ MB T W W.heap.size (W.heap.size + 1) (W.heap.size + 1 + 1) g s (pre ++ [v]).length Vn from by
              rintro Vn rfl
              have hW := (BK.refl wl.heap.size (fun b => T b ∨ b = g ∨ b = W.heap.size + 1 ∨ b = W.heap.size + 1 + 1) (fun T => T ≠ 3) V).setCell (p := ⟨W.heap.size, 0, none⟩) (shape_of_cells HM.out.row6) (by simp) HZ.out (.int .i64 ((pre.length : Int) + 1))
              simp only [List.length_append, List.length_cons, List.length_nil, Nat.zero_add]
              exact ⟨hW.kf, hW.kp, by omega, firstErr_succ hfe he, by rw [show ((pre.length + 1 : Nat) : Int) = (pre.length : Int) + 1 by omega]; exact row_set1 HM.out.row6, hW.ck.row _ _ _ _ (by decide) HM.out.rs, hW.ck.row _ _ _ _ (by decide) HM.out.rp, HM.out.turns.setNew (Nat.le_refl _) _⟩))
            gi_wp2
            exact HFIN.out (.slice A' k c', .int .i64 0) _ rfl
      case hstop =>
        rintro D c pre V hD ⟨rfl, j, j1, j2, j3, hM⟩ hK
        have z6 := cell_of_row _ _ 0 _ _ _ hM.row6
        have HM := Lib.hid hM; clear hM
        have HJ := Lib.hid (mostX_end j1 j2 j3); clear j2 j3
        gi_wp2
        refine ⟨by simp, .inl ⟨_, _, rfl, run_takeDeferred hK, ?_⟩⟩
        refine ⟨.tuple #[.int .i64 (j : Int), .int .i64 0], by simp [results, Try.results60, go_sem]; done, ?_⟩
        rw [HRR.out, HJ.out]
        refine ⟨rfl, ?_⟩
        have hg := grownBy_putObj' V D (.deferred none)
        have ht := HM.out.turns.grown hg (fun r e => by cases e; omega)
        exact HBW.out.trans ((ht.below (B := w2.heap.size) (by omega) (fun b hb => (HTS.out b hb).1)).mono (by omega))
end Go.Proofs.Ytfccghfcilccfaa
