/- book.Stripe, book.lens: the stripes of a thing are as long as they should be. Printed by gen_q4.py. -/
import Derived.Test.YtipecejghioicaaQ3r
import Derived.Test.YtipecejghioicaaDatar
import Derived.Test.YtipecejghioicaaB6r
import Derived.Test.YtipecejghioicaaE1r
import Derived.Deep.CutBlock
import Derived.Deep.Cut
namespace Go.Proofs.Ytipecejghioicaa
open Go.RowKit Go.Silo

set_option maxHeartbeats 2000000 in
theorem Stripe_c {tg tg1 : Bool} {S : Nat → Prop} {w : World} {A0 A1 A2 : Option Addr} {n0 c0 n1 c1 n2 c2 : Nat} {l : List Stripe} {nx x : Int} (h : Sl tg 69 (stripeE tg1) w S A0 n0 c0 l) (hn : n0 < 4611686018427387904)
    (hs : ∀ i j, i < j → j < n0 → (l.getD i default).id < (l.getD j default).id) :
    Calls Try.prog 37 #[.agg #[.slice A0 n0 c0, .slice A1 n1 c1, .slice A2 n2 c2, .int .i64 nx], .int .i64 x] w (RetFound l x w) := by
  have HC := Lib.hid (fun W (hW : Below w.heap.size w W) => search_c (w := W) (x := x) (h.all hW) hn hs); clear hs
  go_enter Try.func37, Try.ntmps37
  go_wp2_with fail
  refine (HC.out _ (by repeat' (first | (with_reducible exact Below.refl _ _) | (with_reducible refine Below.alloc ?_ ?_ _) | (with_reducible refine Below.drew ?_) | (with_reducible refine below_drewN ?_ _) | (with_reducible refine Below.setCell ?_ ?_ _) | (refine via ?_ (by with_reducible assumption) ?_) | (refine via ?_ (below_ext _ _) ?_) | go_size))).mono ?_
  rintro e w1 ⟨i, hi, rfl, h1, h2, hb1⟩
  have HH := Lib.hid (And.intro h1 h2); clear h1 h2
  (obtain ⟨hc_w1, hf_w1⟩ := bcell hb1; have z_w1_0 : w.heap.size < w1.heap.size := (by have := hb1.size; first | omega | (simp at this; omega)))
  go_wp2
  refine bodyPost_ret (v := .tuple #[.int .i64 (i : Int), .bool (decide (i < l.length ∧ (l.getD i default).id = x))]) (by simp [results, Try.results37, go_sem, *]; done) rfl ?_
  exact ⟨i, hi, rfl, HH.out.1, HH.out.2, (by repeat' (first | (with_reducible exact Below.refl _ _) | (with_reducible refine Below.alloc ?_ ?_ _) | (with_reducible refine Below.drew ?_) | (with_reducible refine below_drewN ?_ _) | (with_reducible refine Below.setCell ?_ ?_ _) | (refine via ?_ (by with_reducible assumption) ?_) | (refine via ?_ (below_ext _ _) ?_) | go_size))⟩
/-- The stripe of an ID. -/
def findId (l : List Stripe) (id : Int) : Option Stripe := l.find? (fun y => decide (y.id = id))
/-- Is each stripe as long as what is left, or a stripe's width? Nothing is left behind the last. -/
def lensF (W : Int) (l : List Stripe) : List Int → Int → Bool
  | [], left => decide (left = 0)
  | id :: r, left => match findId l id with
    | none => false
    | some y => if y.len = min left W then lensF W l r (left - y.len) else false
theorem findId_at {l : List Stripe} {x : Int} {i : Nat} (h : i < l.length ∧ (l.getD i default).id = x) (h1 : ∀ j, j < i → (l.getD j default).id < x) : findId l x = some (l.getD i default) := by
  unfold findId
  rw [List.find?_eq_some_iff_getElem]
  have e : ∀ j (hj : j < l.length), l.getD j default = l[j] := fun j hj => by rw [List.getD_eq_getElem?_getD, List.getElem?_eq_getElem hj]; rfl
  refine ⟨by simpa using h.2, i, h.1, (e i h.1).symm, fun j hj => ?_⟩
  have := h1 j hj
  rw [e j (by omega)] at this
  simp; omega
theorem findId_none {l : List Stripe} {x : Int} {i : Nat} (h : ¬ (i < l.length ∧ (l.getD i default).id = x)) (h1 : ∀ j, j < i → (l.getD j default).id < x) (h2 : ∀ j, i ≤ j → j < l.length → x ≤ (l.getD j default).id) (hs : ∀ i j, i < j → j < l.length → (l.getD i default).id < (l.getD j default).id) : findId l x = none := by
  unfold findId
  rw [List.find?_eq_none]
  intro y hy
  obtain ⟨j, hj, rfl⟩ := List.getElem_of_mem hy
  have e : ∀ j (hj : j < l.length), l.getD j default = l[j] := fun j hj => by rw [List.getD_eq_getElem?_getD, List.getElem?_eq_getElem hj]; rfl
  simp only [decide_eq_true_eq]
  intro he
  rcases Nat.lt_trichotomy j i with hji | hji | hji
  · have := h1 j hji; rw [e j hj] at this; omega
  · subst hji; exact h ⟨hj, by rw [e j hj]; exact he⟩
  · have h3 := hs i j hji hj
    have h4 := h2 i (Nat.le_refl _) (by omega)
    rw [e j hj] at h3; omega
set_option maxRecDepth 100000 in
set_option maxHeartbeats 8000000 in
theorem lens_c {tg tg1 tg2 : Bool} {S S2 : Nat → Prop} {w : World} {A0 A1 A2 A3 : Option Addr} {n0 c0 n1 c1 n2 c2 n3 c3 : Nat} {s : Shape} {l : List Stripe} {nx len : Int} {dg : ByteArray} {man : Bool} {xs : List Int} (hsh : shapeOk s = true) (hl0 : 0 ≤ len) (hl1 : len ≤ 2000)
    (h : Sl tg 69 (stripeE tg1) w S A0 n0 c0 l) (hn : n0 < 4611686018427387904) (hs : ∀ i j, i < j → j < n0 → (l.getD i default).id < (l.getD j default).id) (h3 : Sl tg2 3 intE w S2 A3 n3 c3 xs) :
    Calls Try.prog 53 #[.agg #[.int .i64 s.K, .int .i64 s.M, .int .i64 s.size], .agg #[.slice A0 n0 c0, .slice A1 n1 c1, .slice A2 n2 c2, .int .i64 nx], .agg #[.string dg, .int .i64 len, .bool man, .slice A3 n3 c3]] w (RetV (.bool (lensF (s.K * s.size) l xs len)) w) := by
  have hd := hsh
  unfold shapeOk at hd
  have hd := of_decide_eq_true hd
  clear hsh
  have p1 : 1 ≤ s.K * s.size := by have := Int.mul_pos (show 0 < s.K by omega) (show 0 < s.size by omega); omega
  have p2 : s.K * s.size ≤ 8 * 120 := Int.mul_le_mul (by omega) (by omega) (by omega) (by omega)
  have HL3 := Lib.hid h3.len
  have HL := Lib.hid h.len
  have hcap : n3 ≤ 9223372036854775807 := Nat.le_trans h3.le h3.cap
  have HSO := Lib.hid hs
  have HST := Lib.hid (fun W (hW : Below w.heap.size w W) (x : Int) => Stripe_c (w := W) (A1 := A1) (A2 := A2) (n1 := n1) (c1 := c1) (n2 := n2) (c2 := c2) (nx := nx) (x := x) (h.all hW) hn hs); clear hs
  have HRS := Lib.hid (fun W (hW : Below w.heap.size w W) => h.all hW)
  have HR3 := Lib.hid (fun W (hW : Below w.heap.size w W) => h3.all hW)
  obtain ⟨R, hR⟩ : ∃ R, R = lensF (s.K * s.size) l xs len := ⟨_, rfl⟩
  rw [← hR]
  have HR := Lib.hid hR; clear hR
  clear h h3
  go_enter Try.func53, Try.ntmps53
  go_upto_region 1 with (fail)
  obtain ⟨W, hW⟩ : ∃ W, W = s.K * s.size := ⟨_, rfl⟩
  have hW1 := Lib.hid hW
  have hbw : Below w.heap.size w (((w.alloc (.cells #[.int .i64 s.K, .int .i64 s.M, .int .i64 s.size] 23)).alloc (.cells #[.slice A0 n0 c0, .slice A1 n1 c1, .slice A2 n2 c2, .int .i64 nx] 28)).alloc (.cells #[.string dg, .int .i64 len, .bool man, .slice A3 n3 c3] 71)) := (by repeat' (first | (with_reducible exact Below.refl _ _) | (with_reducible refine Below.alloc ?_ ?_ _) | (with_reducible refine Below.drew ?_) | (with_reducible refine below_drewN ?_ _) | (with_reducible refine Below.setCell ?_ ?_ _) | (refine via ?_ (by with_reducible assumption) ?_) | (refine via ?_ (below_ext _ _) ?_) | go_size))
  have hsz : (((w.alloc (.cells #[.int .i64 s.K, .int .i64 s.M, .int .i64 s.size] 23)).alloc (.cells #[.slice A0 n0 c0, .slice A1 n1 c1, .slice A2 n2 c2, .int .i64 nx] 28)).alloc (.cells #[.string dg, .int .i64 len, .bool man, .slice A3 n3 c3] 71)).heap.size = w.heap.size + 3 := by simp
  have r0 : (((w.alloc (.cells #[.int .i64 s.K, .int .i64 s.M, .int .i64 s.size] 23)).alloc (.cells #[.slice A0 n0 c0, .slice A1 n1 c1, .slice A2 n2 c2, .int .i64 nx] 28)).alloc (.cells #[.string dg, .int .i64 len, .bool man, .slice A3 n3 c3] 71)).heap[w.heap.size]? = some (.cells #[.int .i64 s.K, .int .i64 s.M, .int .i64 s.size] 23 (0, 0)) := by
    rw [Below.heap_alloc _ _ _ (by simp; omega), Below.heap_alloc _ _ _ (by simp)]; exact heap_alloc_new _ _
  have r1 : (((w.alloc (.cells #[.int .i64 s.K, .int .i64 s.M, .int .i64 s.size] 23)).alloc (.cells #[.slice A0 n0 c0, .slice A1 n1 c1, .slice A2 n2 c2, .int .i64 nx] 28)).alloc (.cells #[.string dg, .int .i64 len, .bool man, .slice A3 n3 c3] 71)).heap[w.heap.size + 1]? = some (.cells #[.slice A0 n0 c0, .slice A1 n1 c1, .slice A2 n2 c2, .int .i64 nx] 28 (0, 0)) := by
    rw [Below.heap_alloc _ _ _ (by simp)]
    have := heap_alloc_new (w.alloc (.cells #[.int .i64 s.K, .int .i64 s.M, .int .i64 s.size] 23)) (.cells #[.slice A0 n0 c0, .slice A1 n1 c1, .slice A2 n2 c2, .int .i64 nx] 28)
    rwa [World.size_alloc] at this
  have r2 : (((w.alloc (.cells #[.int .i64 s.K, .int .i64 s.M, .int .i64 s.size] 23)).alloc (.cells #[.slice A0 n0 c0, .slice A1 n1 c1, .slice A2 n2 c2, .int .i64 nx] 28)).alloc (.cells #[.string dg, .int .i64 len, .bool man, .slice A3 n3 c3] 71)).heap[w.heap.size + 1 + 1]? = some (.cells #[.string dg, .int .i64 len, .bool man, .slice A3 n3 c3] 71 (0, 0)) := by
    have := heap_alloc_new ((w.alloc (.cells #[.int .i64 s.K, .int .i64 s.M, .int .i64 s.size] 23)).alloc (.cells #[.slice A0 n0 c0, .slice A1 n1 c1, .slice A2 n2 c2, .int .i64 nx] 28)) (.cells #[.string dg, .int .i64 len, .bool man, .slice A3 n3 c3] 71)
    rwa [World.size_alloc, World.size_alloc] at this
  generalize (((w.alloc (.cells #[.int .i64 s.K, .int .i64 s.M, .int .i64 s.size] 23)).alloc (.cells #[.slice A0 n0 c0, .slice A1 n1 c1, .slice A2 n2 c2, .int .i64 nx] 28)).alloc (.cells #[.string dg, .int .i64 len, .bool man, .slice A3 n3 c3] 71)) = w1 at *
  have HBW := Lib.hid (fun V (hV : Below w1.heap.size w1 V) => hbw.trans (hV.mono hbw.size)); clear hbw
  have HROW := Lib.hid (fun V (hV : Below w1.heap.size w1 V) => And.intro ((hV.block _ (by omega)).trans r0) ((hV.block _ (by omega)).trans r1))
  have z1 := cell_of_row _ _ 1 _ _ _ r2
  have z3 := cell_of_row _ _ 3 _ _ _ r2
  clear r0 r1 r2
  go_wp2_with fail
  clear z1 z3
  go_loopw [17, 7] (fun iv lf wr => ∃ k : Nat, ∃ lv : Int, k ≤ n3 ∧ iv = .int .i64 k ∧ lf = .int .i64 lv ∧ 0 ≤ lv ∧ lv ≤ 2000 ∧ Hid (Below w1.heap.size w1 wr) ∧ Hid (R = lensF (s.K * s.size) l (xs.drop k) lv)) (fun iv _ _ => n3 - (intOf iv).toNat)
  case atStart => exact ⟨0, len, Nat.zero_le _, rfl, rfl, hl0, hl1, Lib.hid (Below.refl _ _), Lib.hid (by rw [HR.out]; rfl)⟩
  case round =>
    rename World => wo
    obtain ⟨k, lf, hk, rfl, rfl, hf0, hf1, HB, HRK⟩ := hrel
    by_cases hlt : k < n3
    · obtain ⟨b3, o3, rfl, _, hb3, _, hc3, _⟩ := (HR3.out wo (HBW.out wo HB.out)).int_at hlt
      have hdrop : xs.drop k = xs.getD k 0 :: xs.drop (k + 1) := by
        have hkl : k < xs.length := by have := HL3.out; omega
        rw [List.drop_eq_getElem_cons hkl, List.getD_eq_getElem?_getD, List.getElem?_eq_getElem hkl]; rfl
      generalize xs.getD k 0 = id at *
      have HRK2 : Hid (R = lensF (s.K * s.size) l (id :: xs.drop (k + 1)) lf) := Lib.hid (by rw [← hdrop]; exact HRK.out)
      clear hdrop HRK
      obtain ⟨_, q1⟩ := HROW.out wo HB.out
      have y0 := cell_of_row _ _ 0 _ _ _ q1
      have y1 := cell_of_row _ _ 1 _ _ _ q1
      have y2 := cell_of_row _ _ 2 _ _ _ q1
      have y3 := cell_of_row _ _ 3 _ _ _ q1
      clear q1
      go_wp2_with fail
      refine (HST.out wo (HBW.out wo HB.out) id).mono ?_
      clear y0 y1 y2 y3 hc3
      rintro e w5 ⟨i, hi, rfl, g1, g2, hb5⟩
      have HB5 := Lib.hid (HB.out.trans (hb5.mono HB.out.size)); clear hb5
      by_cases hfd : i < l.length ∧ (l.getD i default).id = id
      · have hfi := findId_at hfd g1
        rw [decide_eq_true hfd]
        have hin : i < n0 := by have := HL.out; omega
        obtain ⟨bs, os, A4, n4, c4, rfl, _, hbs, _, i64l, _, _, _, u1, _⟩ := (HRS.out w5 (HBW.out w5 HB5.out)).stripe_at hin
        generalize l.getD i default = y at *
        obtain ⟨yl, hyl⟩ : ∃ yl, yl = y.len := ⟨_, rfl⟩
        rw [← hyl] at u1 i64l
        unfold I64 at i64l
        have hstep : R = if yl = min lf (s.K * s.size) then lensF (s.K * s.size) l (xs.drop (k + 1)) (lf - yl) else false := by
          rw [HRK2.out]; show (match findId l id with | none => false | some y => if y.len = min lf (s.K * s.size) then lensF (s.K * s.size) l (xs.drop (k + 1)) (lf - y.len) else false) = _
          rw [hfi, hyl]
        have HSTEP := Lib.hid hstep; clear hstep hfi hyl hfd g1 g2
        have HCL := Lib.hid (fun V (hV : Below w5.heap.size w5 V) => And.intro (HROW.out V (HB5.out.trans (hV.mono HB5.out.size))).1 (And.intro (HROW.out V (HB5.out.trans (hV.mono HB5.out.size))).2 ((hV.cell (p := ⟨bs, os + i * 4 + 1, none⟩) hbs).trans u1)))
        clear u1
        by_cases hlen : yl = min lf (s.K * s.size)
        · have hne : (yl != min lf (s.K * s.size)) = false := by simp [hlen]
          have HE : Hid (R = lensF (s.K * s.size) l (xs.drop (k + 1)) (lf - yl)) := Lib.hid (by rw [HSTEP.out, if_pos hlen])
          have hb0 : 0 ≤ yl := by omega
          have hb1 : yl ≤ lf := by omega
          clear HSTEP hlen
          go_wp2_with fail
          refine region_free (by kernel_rfl) (by kernel_rfl) 56 rfl [27, 28, 29, 30, 31, 32, 33, 34, 35, 36, 37, 38, 39, 40, 41, 42, 43, 44] [] []
            [(27, [], fun _ => .bool true), (28, [], fun _ => .bool false), (29, [], fun _ => .bool false), (30, [], fun _ => .pointer (some ⟨w.heap.size + 1, 0, none⟩)), (31, [], fun _ => .slice (some ⟨bs, os, none⟩) n0 c0), (32, [], fun _ => .int .i64 (i : Int)), (33, [], fun _ => .pointer (some ⟨bs, os + i * 4, none⟩)), (34, [], fun _ => .pointer (some ⟨bs, os + i * 4 + 1, none⟩)), (35, [], fun _ => .int .i64 yl), (36, [], fun _ => .int .i64 lf), (37, [], fun _ => .pointer (some ⟨w.heap.size, 0, none⟩)), (38, [], fun _ => .int .i64 s.K), (39, [], fun _ => .pointer (some ⟨w.heap.size, 2, none⟩)), (40, [], fun _ => .int .i64 s.size), (41, [], fun _ => .int .i64 (s.K * s.size)), (42, [], fun _ => .int .i64 (min lf (s.K * s.size))), (43, [], fun _ => .bool false), (44, [], fun _ => .bool false)]
            [] [] [[], [27], [28], [29], [30, 29], [29], [31, 32, 29], [33, 29], [34, 29], [29], [29], [37, 29], [29], [39, 29], [38, 40, 29], [36, 41, 29], [35, 42, 29], [29, 43]]
            (WdB w5 (fun _ _ _ => True)) (by kernel_rfl) .init ⟨?_, ?_, ?_, ?_, ?_, ?_, ?_, ?_, ?_, ?_, ?_, ?_, ?_, ?_, ?_, ?_, ?_, ?_, trivial⟩ ?_
          -- FAST18 cdot
          · (refine OpH.rd rfl rfl (fun ρ us w6 ho ht hc hl hsrc hW => ?_); have e11 := (ho 11 rfl).trans (show _ = (.bool true : Value) from rfl); clear ht ho; simp only [execOp, e11]; go_simp; try rfl)
          · (refine OpH.rd rfl rfl (fun ρ us w6 ho ht hc hl hsrc hW => ?_); have e27 := (ht 27 (by decide)).trans (show _ = (.bool true : Value) from rfl); clear ht ho; simp only [execOp, e27]; go_simp; try rfl)
          · (refine OpH.rd rfl rfl (fun ρ us w6 ho ht hc hl hsrc hW => ?_); have e28 := (ht 28 (by decide)).trans (show _ = (.bool false : Value) from rfl); clear ht ho; simp only [execOp, e28]; go_simp; try rfl)
          · (refine OpH.rdg rfl 2 29 false rfl rfl (by decide) (fun _ _ _ => rfl) (fun ρ us w6 ho ht hc hl hsrc hW => ?_); have e4 := (ho 4 rfl).trans (show _ = (.pointer (some ⟨w.heap.size + 1, 0, none⟩) : Value) from rfl); clear ht ho; simp only [execOp, e4]; go_simp; try rfl)
          · (refine OpH.rdg rfl 2 29 false rfl rfl (by decide) (fun _ _ _ => rfl) (fun ρ us w6 ho ht hc hl hsrc hW => ?_); have e30 := (ht 30 (by decide)).trans (show _ = (.pointer (some ⟨w.heap.size + 1, 0, none⟩) : Value) from rfl); obtain ⟨q0, q1, q2⟩ := HCL.out w6 hW.1; have z0 := cell_of_row _ _ 0 _ _ _ q0; have z2 := cell_of_row _ _ 2 _ _ _ q0; have z3 := cell_of_row _ _ 0 _ _ _ q1; clear q0 q1; clear ht ho; simp only [execOp, e30]; go_simp; try rfl)
          · (refine OpH.rdg rfl 2 29 false rfl rfl (by decide) (fun _ _ _ => rfl) (fun ρ us w6 ho ht hc hl hsrc hW => ?_); have e10 := (ho 10 rfl).trans (show _ = (.int .i64 (i : Int) : Value) from rfl); clear ht ho; simp only [execOp, e10]; go_simp; try rfl)
          · (refine OpH.rdg rfl 2 29 false rfl rfl (by decide) (fun _ _ _ => rfl) (fun ρ us w6 ho ht hc hl hsrc hW => ?_); have e31 := (ht 31 (by decide)).trans (show _ = (.slice (some ⟨bs, os, none⟩) n0 c0 : Value) from rfl); have e32 := (ht 32 (by decide)).trans (show _ = (.int .i64 (i : Int) : Value) from rfl); clear ht ho; simp only [execOp, e31, e32]; go_simp; try rfl)
          · (refine OpH.rdg rfl 2 29 false rfl rfl (by decide) (fun _ _ _ => rfl) (fun ρ us w6 ho ht hc hl hsrc hW => ?_); have e33 := (ht 33 (by decide)).trans (show _ = (.pointer (some ⟨bs, os + i * 4, none⟩) : Value) from rfl); clear ht ho; simp only [execOp, e33]; go_simp; try rfl)
          · (refine OpH.rdg rfl 2 29 false rfl rfl (by decide) (fun _ _ _ => rfl) (fun ρ us w6 ho ht hc hl hsrc hW => ?_); have e34 := (ht 34 (by decide)).trans (show _ = (.pointer (some ⟨bs, os + i * 4 + 1, none⟩) : Value) from rfl); obtain ⟨q0, q1, q2⟩ := HCL.out w6 hW.1; have z0 := cell_of_row _ _ 0 _ _ _ q0; have z2 := cell_of_row _ _ 2 _ _ _ q0; have z3 := cell_of_row _ _ 0 _ _ _ q1; clear q0 q1; clear ht ho; simp only [execOp, e34]; go_simp; try rfl)
          · (refine OpH.rdg rfl 2 29 false rfl rfl (by decide) (fun _ _ _ => rfl) (fun ρ us w6 ho ht hc hl hsrc hW => ?_); have e7 := (ho 7 rfl).trans (show _ = (.int .i64 lf : Value) from rfl); clear ht ho; simp only [execOp, e7]; go_simp; try rfl)
          · (refine OpH.rdg rfl 2 29 false rfl rfl (by decide) (fun _ _ _ => rfl) (fun ρ us w6 ho ht hc hl hsrc hW => ?_); have e3 := (ho 3 rfl).trans (show _ = (.pointer (some ⟨w.heap.size, 0, none⟩) : Value) from rfl); clear ht ho; simp only [execOp, e3]; go_simp; try rfl)
          · (refine OpH.rdg rfl 2 29 false rfl rfl (by decide) (fun _ _ _ => rfl) (fun ρ us w6 ho ht hc hl hsrc hW => ?_); have e37 := (ht 37 (by decide)).trans (show _ = (.pointer (some ⟨w.heap.size, 0, none⟩) : Value) from rfl); obtain ⟨q0, q1, q2⟩ := HCL.out w6 hW.1; have z0 := cell_of_row _ _ 0 _ _ _ q0; have z2 := cell_of_row _ _ 2 _ _ _ q0; have z3 := cell_of_row _ _ 0 _ _ _ q1; clear q0 q1; clear ht ho; simp only [execOp, e37]; go_simp; try rfl)
          · (refine OpH.rdg rfl 2 29 false rfl rfl (by decide) (fun _ _ _ => rfl) (fun ρ us w6 ho ht hc hl hsrc hW => ?_); have e3 := (ho 3 rfl).trans (show _ = (.pointer (some ⟨w.heap.size, 0, none⟩) : Value) from rfl); clear ht ho; simp only [execOp, e3]; go_simp; try rfl)
          · (refine OpH.rdg rfl 2 29 false rfl rfl (by decide) (fun _ _ _ => rfl) (fun ρ us w6 ho ht hc hl hsrc hW => ?_); have e39 := (ht 39 (by decide)).trans (show _ = (.pointer (some ⟨w.heap.size, 2, none⟩) : Value) from rfl); obtain ⟨q0, q1, q2⟩ := HCL.out w6 hW.1; have z0 := cell_of_row _ _ 0 _ _ _ q0; have z2 := cell_of_row _ _ 2 _ _ _ q0; have z3 := cell_of_row _ _ 0 _ _ _ q1; clear q0 q1; clear ht ho; simp only [execOp, e39]; go_simp; try rfl)
          · (refine OpH.rdg rfl 2 29 false rfl rfl (by decide) (fun _ _ _ => rfl) (fun ρ us w6 ho ht hc hl hsrc hW => ?_); have e38 := (ht 38 (by decide)).trans (show _ = (.int .i64 s.K : Value) from rfl); have e40 := (ht 40 (by decide)).trans (show _ = (.int .i64 s.size : Value) from rfl); clear ht ho; simp only [execOp, e38, e40]; go_simp; rw [Go.IntWalk.i64_in _ (by omega)]; rfl)
          · (refine OpH.rdg rfl 2 29 false rfl rfl (by decide) (fun _ _ _ => rfl) (fun ρ us w6 ho ht hc hl hsrc hW => ?_); have e36 := (ht 36 (by decide)).trans (show _ = (.int .i64 lf : Value) from rfl); have e41 := (ht 41 (by decide)).trans (show _ = (.int .i64 (s.K * s.size) : Value) from rfl); clear ht ho; simp only [execOp]; go_simp; rw [show (if s.K * s.size < lf then s.K * s.size else lf) = min lf (s.K * s.size) by split <;> omega]; rfl)
          · (refine OpH.rdg rfl 2 29 false rfl rfl (by decide) (fun _ _ _ => rfl) (fun ρ us w6 ho ht hc hl hsrc hW => ?_); have e35 := (ht 35 (by decide)).trans (show _ = (.int .i64 yl : Value) from rfl); have e42 := (ht 42 (by decide)).trans (show _ = (.int .i64 (min lf (s.K * s.size)) : Value) from rfl); clear ht ho; simp only [execOp, e35, e42]; go_simp; try rfl)
          · (refine OpH.rd rfl rfl (fun ρ us w6 ho ht hc hl hsrc hW => ?_); have e29 := (ht 29 (by decide)).trans (show _ = (.bool false : Value) from rfl); have e43 := (ht 43 (by decide)).trans (show _ = (.bool false : Value) from rfl); clear ht ho; simp only [execOp, e29, e43]; go_simp; try rfl)
          -- TSAF
          · intro us w9 hmem hW
            simp only [putAll, List.map_cons, List.map_nil, List.foldl_cons, List.foldl_nil, Act.put, List.setIfInBounds_toArray, List.set_cons_succ, List.set_cons_zero]
            generalize hsv : slotAt _ _ us = sv
            have hq : sv 44 = (.bool false : Value) := by rw [← hsv]; rfl
            rw [hq]
            have HB9 := Lib.hid hW.1
            clear hsv hq hmem hW
            have HB6 := Lib.hid (HB5.out.trans (HB9.out.mono HB5.out.size))
            have q := (HCL.out _ HB9.out).2.2
            have q1 := (HCL.out _ HB9.out).2.1
            have y0 := cell_of_row _ _ 0 _ _ _ q1
            clear q1
            go_wp2
            exact ⟨⟨k + 1, lf - yl, by omega, by go_num, rfl, by omega, by omega, HB6, HE⟩, by simp [intOf]; omega⟩
        · have hne : (yl != min lf (s.K * s.size)) = true := by simp [hlen]
          have HE : Hid (R = false) := Lib.hid (by rw [HSTEP.out, if_neg hlen])
          clear HSTEP hlen
          go_wp2_with fail
          refine region_free (by kernel_rfl) (by kernel_rfl) 56 rfl [27, 28, 29, 30, 31, 32, 33, 34, 35, 36, 37, 38, 39, 40, 41, 42, 43, 44] [] []
            [(27, [], fun _ => .bool true), (28, [], fun _ => .bool false), (29, [], fun _ => .bool false), (30, [], fun _ => .pointer (some ⟨w.heap.size + 1, 0, none⟩)), (31, [], fun _ => .slice (some ⟨bs, os, none⟩) n0 c0), (32, [], fun _ => .int .i64 (i : Int)), (33, [], fun _ => .pointer (some ⟨bs, os + i * 4, none⟩)), (34, [], fun _ => .pointer (some ⟨bs, os + i * 4 + 1, none⟩)), (35, [], fun _ => .int .i64 yl), (36, [], fun _ => .int .i64 lf), (37, [], fun _ => .pointer (some ⟨w.heap.size, 0, none⟩)), (38, [], fun _ => .int .i64 s.K), (39, [], fun _ => .pointer (some ⟨w.heap.size, 2, none⟩)), (40, [], fun _ => .int .i64 s.size), (41, [], fun _ => .int .i64 (s.K * s.size)), (42, [], fun _ => .int .i64 (min lf (s.K * s.size))), (43, [], fun _ => .bool true), (44, [], fun _ => .bool true)]
            [] [] [[], [27], [28], [29], [30, 29], [29], [31, 32, 29], [33, 29], [34, 29], [29], [29], [37, 29], [29], [39, 29], [38, 40, 29], [36, 41, 29], [35, 42, 29], [29, 43]]
            (WdB w5 (fun _ _ _ => True)) (by kernel_rfl) .init ⟨?_, ?_, ?_, ?_, ?_, ?_, ?_, ?_, ?_, ?_, ?_, ?_, ?_, ?_, ?_, ?_, ?_, ?_, trivial⟩ ?_
          -- FAST18 cdot
          · (refine OpH.rd rfl rfl (fun ρ us w6 ho ht hc hl hsrc hW => ?_); have e11 := (ho 11 rfl).trans (show _ = (.bool true : Value) from rfl); clear ht ho; simp only [execOp, e11]; go_simp; try rfl)
          · (refine OpH.rd rfl rfl (fun ρ us w6 ho ht hc hl hsrc hW => ?_); have e27 := (ht 27 (by decide)).trans (show _ = (.bool true : Value) from rfl); clear ht ho; simp only [execOp, e27]; go_simp; try rfl)
          · (refine OpH.rd rfl rfl (fun ρ us w6 ho ht hc hl hsrc hW => ?_); have e28 := (ht 28 (by decide)).trans (show _ = (.bool false : Value) from rfl); clear ht ho; simp only [execOp, e28]; go_simp; try rfl)
          · (refine OpH.rdg rfl 2 29 false rfl rfl (by decide) (fun _ _ _ => rfl) (fun ρ us w6 ho ht hc hl hsrc hW => ?_); have e4 := (ho 4 rfl).trans (show _ = (.pointer (some ⟨w.heap.size + 1, 0, none⟩) : Value) from rfl); clear ht ho; simp only [execOp, e4]; go_simp; try rfl)
          · (refine OpH.rdg rfl 2 29 false rfl rfl (by decide) (fun _ _ _ => rfl) (fun ρ us w6 ho ht hc hl hsrc hW => ?_); have e30 := (ht 30 (by decide)).trans (show _ = (.pointer (some ⟨w.heap.size + 1, 0, none⟩) : Value) from rfl); obtain ⟨q0, q1, q2⟩ := HCL.out w6 hW.1; have z0 := cell_of_row _ _ 0 _ _ _ q0; have z2 := cell_of_row _ _ 2 _ _ _ q0; have z3 := cell_of_row _ _ 0 _ _ _ q1; clear q0 q1; clear ht ho; simp only [execOp, e30]; go_simp; try rfl)
          · (refine OpH.rdg rfl 2 29 false rfl rfl (by decide) (fun _ _ _ => rfl) (fun ρ us w6 ho ht hc hl hsrc hW => ?_); have e10 := (ho 10 rfl).trans (show _ = (.int .i64 (i : Int) : Value) from rfl); clear ht ho; simp only [execOp, e10]; go_simp; try rfl)
          · (refine OpH.rdg rfl 2 29 false rfl rfl (by decide) (fun _ _ _ => rfl) (fun ρ us w6 ho ht hc hl hsrc hW => ?_); have e31 := (ht 31 (by decide)).trans (show _ = (.slice (some ⟨bs, os, none⟩) n0 c0 : Value) from rfl); have e32 := (ht 32 (by decide)).trans (show _ = (.int .i64 (i : Int) : Value) from rfl); clear ht ho; simp only [execOp, e31, e32]; go_simp; try rfl)
          · (refine OpH.rdg rfl 2 29 false rfl rfl (by decide) (fun _ _ _ => rfl) (fun ρ us w6 ho ht hc hl hsrc hW => ?_); have e33 := (ht 33 (by decide)).trans (show _ = (.pointer (some ⟨bs, os + i * 4, none⟩) : Value) from rfl); clear ht ho; simp only [execOp, e33]; go_simp; try rfl)
          · (refine OpH.rdg rfl 2 29 false rfl rfl (by decide) (fun _ _ _ => rfl) (fun ρ us w6 ho ht hc hl hsrc hW => ?_); have e34 := (ht 34 (by decide)).trans (show _ = (.pointer (some ⟨bs, os + i * 4 + 1, none⟩) : Value) from rfl); obtain ⟨q0, q1, q2⟩ := HCL.out w6 hW.1; have z0 := cell_of_row _ _ 0 _ _ _ q0; have z2 := cell_of_row _ _ 2 _ _ _ q0; have z3 := cell_of_row _ _ 0 _ _ _ q1; clear q0 q1; clear ht ho; simp only [execOp, e34]; go_simp; try rfl)
          · (refine OpH.rdg rfl 2 29 false rfl rfl (by decide) (fun _ _ _ => rfl) (fun ρ us w6 ho ht hc hl hsrc hW => ?_); have e7 := (ho 7 rfl).trans (show _ = (.int .i64 lf : Value) from rfl); clear ht ho; simp only [execOp, e7]; go_simp; try rfl)
          · (refine OpH.rdg rfl 2 29 false rfl rfl (by decide) (fun _ _ _ => rfl) (fun ρ us w6 ho ht hc hl hsrc hW => ?_); have e3 := (ho 3 rfl).trans (show _ = (.pointer (some ⟨w.heap.size, 0, none⟩) : Value) from rfl); clear ht ho; simp only [execOp, e3]; go_simp; try rfl)
          · (refine OpH.rdg rfl 2 29 false rfl rfl (by decide) (fun _ _ _ => rfl) (fun ρ us w6 ho ht hc hl hsrc hW => ?_); have e37 := (ht 37 (by decide)).trans (show _ = (.pointer (some ⟨w.heap.size, 0, none⟩) : Value) from rfl); obtain ⟨q0, q1, q2⟩ := HCL.out w6 hW.1; have z0 := cell_of_row _ _ 0 _ _ _ q0; have z2 := cell_of_row _ _ 2 _ _ _ q0; have z3 := cell_of_row _ _ 0 _ _ _ q1; clear q0 q1; clear ht ho; simp only [execOp, e37]; go_simp; try rfl)
          · (refine OpH.rdg rfl 2 29 false rfl rfl (by decide) (fun _ _ _ => rfl) (fun ρ us w6 ho ht hc hl hsrc hW => ?_); have e3 := (ho 3 rfl).trans (show _ = (.pointer (some ⟨w.heap.size, 0, none⟩) : Value) from rfl); clear ht ho; simp only [execOp, e3]; go_simp; try rfl)
          · (refine OpH.rdg rfl 2 29 false rfl rfl (by decide) (fun _ _ _ => rfl) (fun ρ us w6 ho ht hc hl hsrc hW => ?_); have e39 := (ht 39 (by decide)).trans (show _ = (.pointer (some ⟨w.heap.size, 2, none⟩) : Value) from rfl); obtain ⟨q0, q1, q2⟩ := HCL.out w6 hW.1; have z0 := cell_of_row _ _ 0 _ _ _ q0; have z2 := cell_of_row _ _ 2 _ _ _ q0; have z3 := cell_of_row _ _ 0 _ _ _ q1; clear q0 q1; clear ht ho; simp only [execOp, e39]; go_simp; try rfl)
          · (refine OpH.rdg rfl 2 29 false rfl rfl (by decide) (fun _ _ _ => rfl) (fun ρ us w6 ho ht hc hl hsrc hW => ?_); have e38 := (ht 38 (by decide)).trans (show _ = (.int .i64 s.K : Value) from rfl); have e40 := (ht 40 (by decide)).trans (show _ = (.int .i64 s.size : Value) from rfl); clear ht ho; simp only [execOp, e38, e40]; go_simp; rw [Go.IntWalk.i64_in _ (by omega)]; rfl)
          · (refine OpH.rdg rfl 2 29 false rfl rfl (by decide) (fun _ _ _ => rfl) (fun ρ us w6 ho ht hc hl hsrc hW => ?_); have e36 := (ht 36 (by decide)).trans (show _ = (.int .i64 lf : Value) from rfl); have e41 := (ht 41 (by decide)).trans (show _ = (.int .i64 (s.K * s.size) : Value) from rfl); clear ht ho; simp only [execOp]; go_simp; rw [show (if s.K * s.size < lf then s.K * s.size else lf) = min lf (s.K * s.size) by split <;> omega]; rfl)
          · (refine OpH.rdg rfl 2 29 false rfl rfl (by decide) (fun _ _ _ => rfl) (fun ρ us w6 ho ht hc hl hsrc hW => ?_); have e35 := (ht 35 (by decide)).trans (show _ = (.int .i64 yl : Value) from rfl); have e42 := (ht 42 (by decide)).trans (show _ = (.int .i64 (min lf (s.K * s.size)) : Value) from rfl); clear ht ho; simp only [execOp, e35, e42]; go_simp; try rfl)
          · (refine OpH.rd rfl rfl (fun ρ us w6 ho ht hc hl hsrc hW => ?_); have e29 := (ht 29 (by decide)).trans (show _ = (.bool false : Value) from rfl); have e43 := (ht 43 (by decide)).trans (show _ = (.bool true : Value) from rfl); clear ht ho; simp only [execOp, e29, e43]; go_simp; try rfl)
          -- TSAF
          · intro us w9 hmem hW
            simp only [putAll, List.map_cons, List.map_nil, List.foldl_cons, List.foldl_nil, Act.put, List.setIfInBounds_toArray, List.set_cons_succ, List.set_cons_zero]
            generalize hsv : slotAt _ _ us = sv
            have hq : sv 44 = (.bool true : Value) := by rw [← hsv]; rfl
            rw [hq]
            have HB9 := Lib.hid hW.1
            clear hsv hq hmem hW
            go_wp2
            go_ret
            exact ⟨by rw [HE.out]; rfl, HBW.out _ (HB5.out.trans (HB9.out.mono HB5.out.size))⟩
      · have hfi := findId_none hfd g1 g2 (fun i j h1 h2 => HSO.out i j h1 (by have := HL.out; omega))
        rw [decide_eq_false hfd]
        have HE : Hid (R = false) := Lib.hid (by rw [HRK2.out]; show (match findId l id with | none => false | some y => if y.len = min lf (s.K * s.size) then lensF (s.K * s.size) l (xs.drop (k + 1)) (lf - y.len) else false) = _; rw [hfi])
        clear hfi hfd g1 g2
        go_wp2_with fail
        refine region_free (by kernel_rfl) (by kernel_rfl) 56 rfl [27, 28, 29, 30, 31, 32, 33, 34, 35, 36, 37, 38, 39, 40, 41, 42, 43, 44] [] []
          [(27, [], fun _ => .bool false), (28, [], fun _ => .bool true), (29, [], fun _ => .bool true), (30, [], fun _ => undef), (31, [], fun _ => undef), (32, [], fun _ => undef), (33, [], fun _ => undef), (34, [], fun _ => undef), (35, [], fun _ => undef), (36, [], fun _ => undef), (37, [], fun _ => undef), (38, [], fun _ => undef), (39, [], fun _ => undef), (40, [], fun _ => undef), (41, [], fun _ => undef), (42, [], fun _ => undef), (43, [], fun _ => undef), (44, [], fun _ => .bool true)]
          [] [] [[], [27], [28], [29], [30, 29], [29], [31, 32, 29], [33, 29], [34, 29], [29], [29], [37, 29], [29], [39, 29], [38, 40, 29], [36, 41, 29], [35, 42, 29], [29, 43]]
          (WdB w5 (fun _ _ _ => True)) (by kernel_rfl) .init ⟨?_, ?_, ?_, ?_, ?_, ?_, ?_, ?_, ?_, ?_, ?_, ?_, ?_, ?_, ?_, ?_, ?_, ?_, trivial⟩ ?_
        -- FAST18 cdot
        · (refine OpH.rd rfl rfl (fun ρ us w6 ho ht hc hl hsrc hW => ?_); have e11 := (ho 11 rfl).trans (show _ = (.bool false : Value) from rfl); clear ht ho; simp only [execOp, e11]; go_simp; try rfl)
        · (refine OpH.rd rfl rfl (fun ρ us w6 ho ht hc hl hsrc hW => ?_); have e27 := (ht 27 (by decide)).trans (show _ = (.bool false : Value) from rfl); clear ht ho; simp only [execOp, e27]; go_simp; try rfl)
        · (refine OpH.rd rfl rfl (fun ρ us w6 ho ht hc hl hsrc hW => ?_); have e28 := (ht 28 (by decide)).trans (show _ = (.bool true : Value) from rfl); clear ht ho; simp only [execOp, e28]; go_simp; try rfl)
        · (exact OpH.rdn rfl 2 29 false rfl rfl (by decide) (fun _ _ _ => rfl) (fun _ => rfl))
        · (exact OpH.rdn rfl 2 29 false rfl rfl (by decide) (fun _ _ _ => rfl) (fun _ => rfl))
        · (exact OpH.rdn rfl 2 29 false rfl rfl (by decide) (fun _ _ _ => rfl) (fun _ => rfl))
        · (exact OpH.rdn rfl 2 29 false rfl rfl (by decide) (fun _ _ _ => rfl) (fun _ => rfl))
        · (exact OpH.rdn rfl 2 29 false rfl rfl (by decide) (fun _ _ _ => rfl) (fun _ => rfl))
        · (exact OpH.rdn rfl 2 29 false rfl rfl (by decide) (fun _ _ _ => rfl) (fun _ => rfl))
        · (exact OpH.rdn rfl 2 29 false rfl rfl (by decide) (fun _ _ _ => rfl) (fun _ => rfl))
        · (exact OpH.rdn rfl 2 29 false rfl rfl (by decide) (fun _ _ _ => rfl) (fun _ => rfl))
        · (exact OpH.rdn rfl 2 29 false rfl rfl (by decide) (fun _ _ _ => rfl) (fun _ => rfl))
        · (exact OpH.rdn rfl 2 29 false rfl rfl (by decide) (fun _ _ _ => rfl) (fun _ => rfl))
        · (exact OpH.rdn rfl 2 29 false rfl rfl (by decide) (fun _ _ _ => rfl) (fun _ => rfl))
        · (exact OpH.rdn rfl 2 29 false rfl rfl (by decide) (fun _ _ _ => rfl) (fun _ => rfl))
        · (exact OpH.rdn rfl 2 29 false rfl rfl (by decide) (fun _ _ _ => rfl) (fun _ => rfl))
        · (exact OpH.rdn rfl 2 29 false rfl rfl (by decide) (fun _ _ _ => rfl) (fun _ => rfl))
        · (refine OpH.rd rfl rfl (fun ρ us w6 ho ht hc hl hsrc hW => ?_); have e29 := (ht 29 (by decide)).trans (show _ = (.bool true : Value) from rfl); have e43 := (ht 43 (by decide)).trans (show _ = (undef : Value) from rfl); clear ht ho; simp only [execOp, e29, e43]; go_simp; try rfl)
        -- TSAF
        · intro us w9 hmem hW
          simp only [putAll, List.map_cons, List.map_nil, List.foldl_cons, List.foldl_nil, Act.put, List.setIfInBounds_toArray, List.set_cons_succ, List.set_cons_zero]
          generalize hsv : slotAt _ _ us = sv
          have hq : sv 44 = (.bool true : Value) := by rw [← hsv]; rfl
          rw [hq]
          have HB9 := Lib.hid hW.1
          clear hsv hq hmem hW
          go_wp2
          go_ret
          exact ⟨by rw [HE.out]; rfl, HBW.out _ (HB5.out.trans (HB9.out.mono HB5.out.size))⟩
    · obtain rfl : k = n3 := by omega
      have HE : Hid (R = decide (lf = 0)) := Lib.hid (by rw [HRK.out, List.drop_of_length_le (by have := HL3.out; omega)]; rfl)
      have hz : (lf == 0) = decide (lf = 0) := by by_cases h : lf = 0 <;> simp [h]
      go_wp2
      go_ret
      exact ⟨by rw [HE.out, ← hz]; rfl, HBW.out _ HB.out⟩
end Go.Proofs.Ytipecejghioicaa
