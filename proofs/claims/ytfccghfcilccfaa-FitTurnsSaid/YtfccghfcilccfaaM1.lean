/- silolaw18.FitTurns answers true. Printed by gen_m1.py. -/
import Derived.Test.YtfccghfcilccfaaR9
import Derived.Test.YtfccghfcilccfaaK3
import Derived.Deep.CutBlock
import Derived.Deep.Cut
namespace Go.Silo
open Go Go.RowKit
theorem turnsAll {S : Nat → Prop} {T : TypeId} {g n : Nat} (hS : S g) : ∀ (vs : List Value) (k : Nat) (W0 W : World), Turns S T W0 W → W.shape? g = some (T, n) → Turns S T W0 (setAll g k vs W)
  | [], _, _, _, h, _ => h
  | v :: vs, k, W0, _, h, hs => turnsAll hS vs (k + 1) W0 _ (h.setCell (p := ⟨g, k, none⟩) hS hs v) ((shape_setCell _ _ _ _).trans hs)
theorem WdS.ever {V W : World} {R : Nat → Value → World → Prop} {s1 : Nat} {st1 : List (Nat × Value) → World → World} {us : List (Nat × Value)} (h : WdS V R s1 st1 us W) {i : Nat} (hi : i ∈ us.map Prod.fst) (h1 : i ≠ s1) : ∃ v W0, us.lookup i = some v ∧ R i v W0 := by
  cases h with
  | pre _ hR _ => obtain ⟨v, a, b⟩ := lookup_mem hi; exact ⟨v, _, a, hR i v b⟩
  | @one us0 W0 x _ hR _ => obtain ⟨v, a, b⟩ := lookup_mem (before_mid hi h1); exact ⟨v, _, by rw [lookup_mid h1]; exact a, hR i v b⟩
/-- A store of known parts into step ib's box. -/
def stC (ib : Nat) (vs : List Value) (us : List (Nat × Value)) (W : World) : World := setAll (blkOf ((us.lookup ib).getD undef)) 0 vs W
/-- A store of step iv's parts into step ib's box. -/
def stA (ib iv : Nat) (us : List (Nat × Value)) (W : World) : World := setAll (blkOf ((us.lookup ib).getD undef)) 0 (partsOf ((us.lookup iv).getD undef)) W
end Go.Silo
namespace Go.Proofs.Ytfccghfcilccfaa
open Go.RowKit Go.Silo

theorem tdiv_I64 {a b : Int} (hb : 0 < b) (h : I64 a) : I64 (a.tdiv b) := by
  unfold I64 at *
  rcases Int.le_total 0 a with h0 | h0
  · rw [Int.tdiv_eq_ediv_of_nonneg h0]
    have h1 := Int.ediv_nonneg h0 (Int.le_of_lt hb)
    have h2 := Int.ediv_le_self b h0
    omega
  · have e : a.tdiv b = -((-a) / b) := by rw [← Int.tdiv_eq_ediv_of_nonneg (by omega), Int.neg_tdiv]; omega
    have h1 := Int.ediv_nonneg (show 0 ≤ -a by omega) (Int.le_of_lt hb)
    have h2 := Int.ediv_le_self b (show 0 ≤ -a by omega)
    omega
theorem quo_I64 {a b : Int} (hb : 0 < b) (h : I64 a) : IntKind.i64.wrap (a.tdiv b) = a.tdiv b := by
  have := tdiv_I64 hb h
  unfold I64 at this
  exact Go.IntWalk.i64_in _ (by omega)
/-- What the region gives that makes the shape. -/
def RT3 (n : Int) (V : World) (i : Nat) (v : Value) (W : World) : Prop :=
  (i = 2 → v = .int .i64 (withinZ n 3)) ∧ (i = 7 → v = .int .i64 (withinZ (n.tdiv 3) 2)) ∧
  (i = 9 → ∃ g, v = .pointer (some ⟨g, 0, none⟩) ∧ V.heap.size ≤ g ∧ W.heap[g]? = some (.cells #[.int .i64 0, .int .i64 0, .int .i64 0] 23 (0, 0)))
theorem RT3.all {n : Int} {V W W' : World} (hb : Below W.heap.size W W') (j : Nat) (v : Value) (h : RT3 n V j v W) : RT3 n V j v W' :=
  ⟨h.1, h.2.1, fun hj => by obtain ⟨g, a, b, c⟩ := h.2.2 hj; exact ⟨g, a, b, (hb.block _ (Array.getElem?_eq_some_iff.1 c).1).trans c⟩⟩
/-- What the region gives that makes the slots. -/
def RT4 (E : Int) (D : Nat) (V : World) (i : Nat) (v : Value) (W : World) : Prop :=
  (i = 8 → v = .int .i64 E) ∧
  (i = 10 → ∃ A0 n0 c0 A1 n1 c1, v = .agg #[.slice A0 n0 c0, .slice A1 n1 c1] ∧ Sl true 4 boolE W (fun _ => True) A0 n0 c0 (newX D 6).live ∧ Sl true 52 (slE true 3 intE) W (fun _ => True) A1 n1 c1 (newX D 6).free) ∧
  (i = 11 → ∃ g, v = .pointer (some ⟨g, 0, none⟩) ∧ V.heap.size ≤ g ∧ W.heap[g]? = some (.cells #[.slice none 0 0, .slice none 0 0] 62 (0, 0)))
theorem RT4.all {E : Int} {D : Nat} {V W W' : World} (hb : Below W.heap.size W W') (j : Nat) (v : Value) (h : RT4 E D V j v W) : RT4 E D V j v W' :=
  ⟨h.1, fun hj => by obtain ⟨A0, n0, c0, A1, n1, c1, e, s0, s1⟩ := h.2.1 hj; exact ⟨A0, n0, c0, A1, n1, c1, e, s0.all hb, s1.all hb⟩, fun hj => by obtain ⟨g, a, b, c⟩ := h.2.2 hj; exact ⟨g, a, b, (hb.block _ (Array.getElem?_eq_some_iff.1 c).1).trans c⟩⟩
/-- The boxes of the shape and of the slots. -/
structure TB (g g4 : Nat) (K M : Int) (x : SlotsD) (B0 : Option Addr) (m0 d0 : Nat) (B1 : Option Addr) (m1 d1 : Nat) (W : World) : Prop where
  rs : W.heap[g]? = some (.cells #[.int .i64 K, .int .i64 M, .int .i64 4] 23 (0, 0))
  rx : W.heap[g4]? = some (.cells #[.slice B0 m0 d0, .slice B1 m1 d1] 62 (0, 0))
  x0 : Sl true 4 boolE W (fun _ => True) B0 m0 d0 x.live
  x1 : Sl true 52 (slE true 3 intE) W (fun _ => True) B1 m1 d1 x.free
theorem TB.all {g g4 : Nat} {K M : Int} {x : SlotsD} {B0 B1 : Option Addr} {m0 d0 m1 d1 : Nat} {W W' : World} (h : TB g g4 K M x B0 m0 d0 B1 m1 d1 W) (hb : Below W.heap.size W W') : TB g g4 K M x B0 m0 d0 B1 m1 d1 W' :=
  ⟨(hb.block _ (Array.getElem?_eq_some_iff.1 h.rs).1).trans h.rs, (hb.block _ (Array.getElem?_eq_some_iff.1 h.rx).1).trans h.rx, h.x0.all hb, h.x1.all hb⟩
/-- The boxes of a round. -/
structure UB (g8 g10 : Nat) (A : Option Addr) (m c : Nat) (L : List (List Slot)) (C0 : Option Addr) (e0 f0 : Nat) (C1 : Option Addr) (e1 f1 : Nat) (y u : SlotsD) (U0 : Option Addr) (a0 b0 : Nat) (U1 : Option Addr) (a1 b1 : Nat) (W : World) : Prop where
  sl : Sl true 71 (slE true 104 slotE) W (fun _ => True) A m c L
  r8 : W.heap[g8]? = some (.cells #[.slice C0 e0 f0, .slice C1 e1 f1] 62 (0, 0))
  y0 : Sl true 4 boolE W (fun _ => True) C0 e0 f0 y.live
  y1 : Sl true 52 (slE true 3 intE) W (fun _ => True) C1 e1 f1 y.free
  r10 : W.heap[g10]? = some (.cells #[.slice U0 a0 b0, .slice U1 a1 b1] 62 (0, 0))
  u0 : Sl true 4 boolE W (fun _ => True) U0 a0 b0 u.live
  u1 : Sl true 52 (slE true 3 intE) W (fun _ => True) U1 a1 b1 u.free
section
variable {g8 g10 : Nat} {A : Option Addr} {m c : Nat} {L : List (List Slot)} {C0 : Option Addr} {e0 f0 : Nat} {C1 : Option Addr} {e1 f1 : Nat} {y u v : SlotsD} {U0 : Option Addr} {a0 b0 : Nat} {U1 : Option Addr} {a1 b1 : Nat} {V0 : Option Addr} {p0 q0 : Nat} {V1 : Option Addr} {p1 q1 : Nat} {W W' : World}
theorem UB.all (h : UB g8 g10 A m c L C0 e0 f0 C1 e1 f1 y u U0 a0 b0 U1 a1 b1 W) (hb : Below W.heap.size W W') : UB g8 g10 A m c L C0 e0 f0 C1 e1 f1 y u U0 a0 b0 U1 a1 b1 W' :=
  ⟨h.sl.all hb, (hb.block _ (Array.getElem?_eq_some_iff.1 h.r8).1).trans h.r8, h.y0.all hb, h.y1.all hb, (hb.block _ (Array.getElem?_eq_some_iff.1 h.r10).1).trans h.r10, h.u0.all hb, h.u1.all hb⟩
/-- The next slots are put. -/
theorem UB.put (h : UB g8 g10 A m c L C0 e0 f0 C1 e1 f1 y u U0 a0 b0 U1 a1 b1 W) (hne : g8 ≠ g10) (v0 : Sl true 4 boolE W (fun _ => True) V0 p0 q0 v.live) (v1 : Sl true 52 (slE true 3 intE) W (fun _ => True) V1 p1 q1 v.free) :
    UB g8 g10 A m c L C0 e0 f0 C1 e1 f1 y v V0 p0 q0 V1 p1 q1 ((W.setCell ⟨g10, 0, none⟩ (.slice V0 p0 q0)).setCell ⟨g10, 1, none⟩ (.slice V1 p1 q1)) := by
  have hT : Turns (fun _ => True) 62 W ((W.setCell ⟨g10, 0, none⟩ (.slice V0 p0 q0)).setCell ⟨g10, 1, none⟩ (.slice V1 p1 q1)) := turnsAll (g := g10) trivial [.slice V0 p0 q0, .slice V1 p1 q1] 0 _ _ (Turns.refl _ _ _) (shape_of_cells h.r10)
  exact ⟨hT.sl (Avoids.slE (slotE_avoids _) (by decide)) (by decide) h.sl, (Below.heap_setCell _ _ _ _ hne).trans ((Below.heap_setCell _ _ _ _ hne).trans h.r8), hT.sl (boolE_avoids _) (by decide) h.y0, hT.sl (Avoids.slE (intE_avoids _) (by decide)) (by decide) h.y1, setAll_2 h.r10,
    hT.sl (boolE_avoids _) (by decide) v0, hT.sl (Avoids.slE (intE_avoids _) (by decide)) (by decide) v1⟩
end
set_option maxRecDepth 100000 in
set_option maxHeartbeats 16000000 in
theorem FitTurns_c {S : Nat → Prop} {w : World} {p : AskF} {As A0 A1 : Option Addr} {ns cs n0 c0 n1 c1 : Nat} (hB : AskFB p) (h : AskFR w S p As ns cs A0 n0 c0 A1 n1 c1) :
    Calls Try.prog 5 #[.agg #[.slice As ns cs, .slice A0 n0 c0, .slice A1 n1 c1, .int .i64 p.n]] w (RetV (.bool true) w) := by
  have HI := Lib.hid h.n
  have hrow := heap_alloc_new w (.cells #[.slice As ns cs, .slice A0 n0 c0, .slice A1 n1 c1, .int .i64 p.n] 64)
  have hz : w.heap.size < (w.alloc (.cells #[.slice As ns cs, .slice A0 n0 c0, .slice A1 n1 c1, .int .i64 p.n] 64)).heap.size := by simp
  have hal : Below w.heap.size w (w.alloc (.cells #[.slice As ns cs, .slice A0 n0 c0, .slice A1 n1 c1, .int .i64 p.n] 64)) := (by repeat' (first | (with_reducible exact Below.refl _ _) | (with_reducible refine Below.alloc ?_ ?_ _) | (with_reducible refine Below.drew ?_) | (with_reducible refine below_drewN ?_ _) | (with_reducible refine Below.setCell ?_ ?_ _) | (refine via ?_ (by with_reducible assumption) ?_) | (refine via ?_ (below_ext _ _) ?_) | go_size))
  have HHV := Lib.hid (Heavy18_c hB (h.all hal)); clear hB h
  go_enter Try.func5, Try.ntmps5
  go_upto_region 1 with (fail)
  generalize (w.alloc (.cells #[.slice As ns cs, .slice A0 n0 c0, .slice A1 n1 c1, .int .i64 p.n] 64)) = W0 at *
  have HAL := Lib.hid (fun W (hW : Below W0.heap.size W0 W) => hal.trans (hW.mono (Nat.le_of_lt hz))); clear hal
  have y0 := cell_of_row _ _ 0 _ _ _ hrow
  have y1 := cell_of_row _ _ 1 _ _ _ hrow
  have y2 := cell_of_row _ _ 2 _ _ _ hrow
  have y3 := cell_of_row _ _ 3 _ _ _ hrow
  have CELLS : Hid (∀ W, Below W0.heap.size W0 W → W.cell? ⟨w.heap.size, 3, none⟩ = some (.int .i64 p.n)) := Lib.hid (fun W hW => cell_of_row W _ 3 _ _ _ ((hW.block _ hz).trans hrow))
  clear hrow
  go_wp2_with fail
  refine HHV.out.mono ?_
  clear y0 y1 y2 y3
  rintro e w1 ⟨v, rfl, hb1, _⟩
  have HB1 := Lib.hid hb1; clear hb1
  cases v with
  | true =>
    go_wp2
    go_ret
    exact ⟨by trivial, HAL.out _ HB1.out⟩
  | false =>
    go_wp2_with fail
    refine region_free (by kernel_rfl) (by kernel_rfl) 117 rfl [17, 18, 19, 20, 21, 22, 23, 24, 25, 3] [2, 7, 9, 10] [(19, 2), (24, 7), (3, 9)]
      [(17, [], fun _ => (.pointer (some ⟨w.heap.size, 3, none⟩))), (18, [], fun _ => .int .i64 p.n), (20, [2], fun _ => .int .i64 (1 + withinZ p.n 3)), (21, [], fun _ => (.pointer (some ⟨w.heap.size, 3, none⟩))), (22, [], fun _ => .int .i64 p.n), (23, [], fun _ => .int .i64 (p.n.tdiv 3)), (25, [7], fun _ => .agg #[.int .i64 (1 + withinZ p.n 3), .int .i64 (withinZ (p.n.tdiv 3) 2), .int .i64 4])]
      [[10], [10], [10], [10], [10], [10], [10], [10], [10], [10]] [[], [], [], [], [], [], [], [], [], [], [9]] [[], [17], [18], [19], [], [21], [22], [23], [20, 24], [], [3, 25]]
      (WdS w1 (RT3 p.n w1) 10 (stC 9 [.int .i64 (1 + withinZ p.n 3), .int .i64 (withinZ (p.n.tdiv 3) 2), .int .i64 4])) (by kernel_rfl) .init ⟨?_, ?_, ?_, ?_, ?_, ?_, ?_, ?_, ?_, ?_, ?_, trivial⟩ ?_
    -- FAST11 cdot
    · (refine OpH.rd rfl rfl (fun ρ us w6 ho ht hc hl hsrc hW => ?_); have e1 := (ho 1 rfl).trans (show _ = ((.pointer (some ⟨w.heap.size, 0, none⟩)) : Value) from rfl); clear ht ho; simp only [execOp, e1]; go_simp; try rfl)
    · (refine OpH.rd rfl rfl (fun ρ us w6 ho ht hc hl hsrc hW => ?_); have e17 := (ht 17 (by decide)).trans (show _ = ((.pointer (some ⟨w.heap.size, 3, none⟩)) : Value) from rfl); have y3 := CELLS.out w6 (HB1.out.trans ((hW.early (hl 10 (by decide))).1.mono HB1.out.size)); clear ht ho; simp only [execOp, e17]; go_simp; try rfl)
    · refine OpH.wr rfl (fun Z us w6 ho ht hni hlim hreq hW K hK => ?_)
      have e18 := (ht 18 (by decide)).trans (show _ = (.int .i64 p.n : Value) from rfl)
      have hn := hlim 10 (by decide)
      have hb6 := (hW.early hn).1
      have hcst : ∀ v, Z.eval (.const v) = v := fun _ => rfl
      have hcl := WithinZ_c (w := w6) (i := p.n) (n := 3) HI.out (by omega) (by omega)
      refine step_call rfl 28 #[.tmp 18, .const (.int .i64 3)] #[3, 3] rfl Try.func28 (by kernel_rfl) (by kernel_rfl) #[.int .i64 p.n, .int .i64 3] (by simp [e18, hcst]) (hcl) ?_
      rintro e w7 ⟨rfl, hb7⟩
      exact ⟨_, rfl, hK _ _ (hW.snoc (by decide) hn hb7 (fun j v h => RT3.all hb7 j v h) ⟨fun _ => rfl, (fun h => absurd h (by decide)), (fun h => absurd h (by decide))⟩)⟩
    · refine OpH.rd rfl rfl (fun ρ us w6 ho ht hc hl hsrc hW => ?_)
      obtain ⟨v2, W2, l2, r2⟩ := hW.ever (hsrc 2 (by exact (List.mem_singleton.2 rfl : (2 : Nat) ∈ [2]))) (by decide)
      obtain rfl := r2.1 rfl
      have e19 := ((ht 19 (by decide)).trans (show _ = (us.lookup 2).getD undef from rfl)).trans (show _ = (.int .i64 (withinZ p.n 3) : Value) by rw [l2]; rfl)
      clear ht ho hl hsrc hW l2 r2
      simp only [execOp, e19]
      go_simp
      rw [Go.IntWalk.i64_in _ (by have := withinZ_ge (i := p.n) (n := 3) (by omega); omega)]; rfl
    · (refine OpH.rd rfl rfl (fun ρ us w6 ho ht hc hl hsrc hW => ?_); have e1 := (ho 1 rfl).trans (show _ = ((.pointer (some ⟨w.heap.size, 0, none⟩)) : Value) from rfl); clear ht ho; simp only [execOp, e1]; go_simp; try rfl)
    · (refine OpH.rd rfl rfl (fun ρ us w6 ho ht hc hl hsrc hW => ?_); have e21 := (ht 21 (by decide)).trans (show _ = ((.pointer (some ⟨w.heap.size, 3, none⟩)) : Value) from rfl); have y3 := CELLS.out w6 (HB1.out.trans ((hW.early (hl 10 (by decide))).1.mono HB1.out.size)); clear ht ho; simp only [execOp, e21]; go_simp; try rfl)
    · (refine OpH.rd rfl rfl (fun ρ us w6 ho ht hc hl hsrc hW => ?_); have e22 := (ht 22 (by decide)).trans (show _ = (.int .i64 p.n : Value) from rfl); clear ht ho; simp only [execOp, e22]; go_simp; exact congrArg (Value.int .i64) (quo_I64 (b := 3) (by decide) HI.out))
    · refine OpH.wr rfl (fun Z us w6 ho ht hni hlim hreq hW K hK => ?_)
      have e23 := (ht 23 (by decide)).trans (show _ = (.int .i64 (p.n.tdiv 3) : Value) from rfl)
      have hn := hlim 10 (by decide)
      have hb6 := (hW.early hn).1
      have hcst : ∀ v, Z.eval (.const v) = v := fun _ => rfl
      have hcl := WithinZ_c (w := w6) (i := p.n.tdiv 3) (n := 2) (tdiv_I64 (by decide) HI.out) (by omega) (by omega)
      refine step_call rfl 28 #[.tmp 23, .const (.int .i64 2)] #[3, 3] rfl Try.func28 (by kernel_rfl) (by kernel_rfl) #[.int .i64 (p.n.tdiv 3), .int .i64 2] (by simp [e23, hcst]) (hcl) ?_
      rintro e w7 ⟨rfl, hb7⟩
      exact ⟨_, rfl, hK _ _ (hW.snoc (by decide) hn hb7 (fun j v h => RT3.all hb7 j v h) ⟨(fun h => absurd h (by decide)), fun _ => rfl, (fun h => absurd h (by decide))⟩)⟩
    · refine OpH.rd rfl rfl (fun ρ us w6 ho ht hc hl hsrc hW => ?_)
      obtain ⟨v7, W7, l7, r7⟩ := hW.ever (hsrc 7 (by exact (List.mem_singleton.2 rfl : (7 : Nat) ∈ [7]))) (by decide)
      obtain rfl := r7.2.1 rfl
      have e24 := ((ht 24 (by decide)).trans (show _ = (us.lookup 7).getD undef from rfl)).trans (show _ = (.int .i64 (withinZ (p.n.tdiv 3) 2) : Value) by rw [l7]; rfl)
      have e20 := (ht 20 (by decide)).trans (show _ = (.int .i64 (1 + withinZ p.n 3) : Value) from rfl)
      clear ht ho hl hsrc hW l7 r7
      simp only [execOp]
      go_simp
      rfl
    · refine OpH.wr rfl (fun Z us w6 ho ht hni hlim hreq hW K hK => ?_)
      have hn := hlim 10 (by decide)
      have hdone := hW.snoc (i := 9) (x := .pointer (some ⟨w6.heap.size, 0, none⟩)) (by decide) hn ((Below.refl _ _).alloc (Nat.le_refl _) (.cells #[.int .i64 0, .int .i64 0, .int .i64 0] 23)) (fun j v h => RT3.all ((Below.refl _ _).alloc (Nat.le_refl _) _) j v h) ⟨(fun h => absurd h (by decide)), (fun h => absurd h (by decide)), fun _ => ⟨_, rfl, (hW.early hn).1.size, heap_alloc_new _ _⟩⟩
      have HDN := Lib.hid hdone; clear hdone hW hni hlim hreq ho ht hn
      rw [if_pos (by simp [Region.wanted])]
      unfold Oper.wp
      generalize Z.eval = ρ at *
      simp only [execOp]
      go_simp
      exact hK _ _ HDN.out
    · refine OpH.wr rfl (fun Z us w6 ho ht hni hlim hreq hW K hK => ?_)
      have hE := hW.early hni
      obtain ⟨v9, l9, m9⟩ := lookup_mem (hreq 9 (by decide))
      obtain ⟨g, rfl, hg, hr⟩ := (hE.2 9 v9 m9).2.2 rfl
      have e3 := ((ht 3 (by decide)).trans (show _ = (us.lookup 9).getD undef from rfl)).trans (show _ = (.pointer (some ⟨g, 0, none⟩) : Value) by rw [l9]; rfl)
      have e25 := (ht 25 (by decide)).trans (show _ = (.agg #[.int .i64 (1 + withinZ p.n 3), .int .i64 (withinZ (p.n.tdiv 3) 2), .int .i64 4] : Value) from rfl)
      have hst : stC 9 [.int .i64 (1 + withinZ p.n 3), .int .i64 (withinZ (p.n.tdiv 3) 2), .int .i64 4] us w6 = setAll g 0 [.int .i64 (1 + withinZ p.n 3), .int .i64 (withinZ (p.n.tdiv 3) 2), .int .i64 4] w6 := by unfold stC; rw [l9]; rfl
      have hdone := hW.store hni (x := undef)
      rw [hst] at hdone
      have f0 := (cell_of_row w6 _ 0 _ _ _ hr).trans (show _ = some (Value.int .i64 0) from rfl)
      have f1 := (cell_of_row w6 _ 1 _ _ _ hr).trans (show _ = some (Value.int .i64 0) from rfl)
      have f2 := (cell_of_row w6 _ 2 _ _ _ hr).trans (show _ = some (Value.int .i64 0) from rfl)
      have f4 := frozen_of_row w6 _ 0 _ _ hr
      have f5 := frozen_of_row w6 _ 1 _ _ hr
      have f6 := frozen_of_row w6 _ 2 _ _ hr
      have HDN := Lib.hid hdone; clear hdone hW hni hlim hreq ho ht hst hr l9 m9 hE
      rw [if_pos (by simp [Region.wanted])]
      unfold Oper.wp
      generalize Z.eval = ρ at *
      simp only [execOp, e3, e25]
      go_simp
      exact hK undef _ HDN.out
    -- TSAF
    · intro us w9 hmem hW
      obtain ⟨us0, W6, x0, rfl, rfl, hb, hR, hn1⟩ := hW.last (hmem 10 (by decide))
      obtain ⟨v9, l9, m9⟩ := lookup_mem (before_mid (hmem 9 (by decide)) (by decide))
      obtain ⟨g, rfl, hg, hr⟩ := (hR 9 v9 m9).2.2 rfl
      have hst : stC 9 [.int .i64 (1 + withinZ p.n 3), .int .i64 (withinZ (p.n.tdiv 3) 2), .int .i64 4] us0 W6 = setAll g 0 [.int .i64 (1 + withinZ p.n 3), .int .i64 (withinZ (p.n.tdiv 3) 2), .int .i64 4] W6 := by unfold stC; rw [l9]; rfl
      rw [hst]
      have hrow := setAll_3 (a := .int .i64 (1 + withinZ p.n 3)) (b := .int .i64 (withinZ (p.n.tdiv 3) 2)) (c := .int .i64 4) hr
      have hB9 := setAll_below (g := g) (m := W0.heap.size) (Nat.le_trans HB1.out.size hg) [.int .i64 (1 + withinZ p.n 3), .int .i64 (withinZ (p.n.tdiv 3) 2), .int .i64 4] 0 W6 (HB1.out.trans (hb.mono HB1.out.size))
      simp only [putAll, List.map_cons, List.map_nil, List.foldl_cons, List.foldl_nil, Act.put, List.setIfInBounds_toArray, List.set_cons_succ, List.set_cons_zero]
      generalize hsv : slotAt _ _ _ = sv
      have s3 : sv 3 = .pointer (some ⟨g, 0, none⟩) := by rw [← hsv]; show ((us0 ++ [(10, x0)]).lookup 9).getD undef = _; rw [lookup_mid (by decide), l9]; rfl
      rw [s3]
      clear hsv s3 hst hb hR hn1 hW hmem l9 m9 hr hg
      generalize setAll g 0 [.int .i64 (1 + withinZ p.n 3), .int .i64 (withinZ (p.n.tdiv 3) 2), .int .i64 4] W6 = w3 at *
      have HROW3 := Lib.hid hrow; clear hrow
      have HB3 := Lib.hid hB9; clear hB9
      obtain ⟨KZ, hKZ⟩ : ∃ KZ, KZ = (1 + withinZ p.n 3) := ⟨_, rfl⟩
      obtain ⟨MZ, hMZ⟩ : ∃ MZ, MZ = (withinZ (p.n.tdiv 3) 2) := ⟨_, rfl⟩
      obtain ⟨EZ, hEZ⟩ : ∃ EZ, EZ = (withinZ (p.n.tdiv 7) 3) := ⟨_, rfl⟩
      rw [← hKZ, ← hMZ] at HROW3
      have hK3 : 1 ≤ KZ ∧ KZ ≤ 3 := by have := withinZ_ge (i := p.n) (n := 3) (by omega); omega
      have hM3 : 0 ≤ MZ ∧ MZ ≤ 1 := by have := withinZ_ge (i := p.n.tdiv 3) (n := 2) (by omega); omega
      have hE3 : 0 ≤ EZ ∧ EZ ≤ 2 := by have := withinZ_ge (i := p.n.tdiv 7) (n := 3) (by omega); omega
      have HEZ := Lib.hid hEZ.symm; clear hEZ hKZ hMZ
      obtain ⟨D, hD⟩ : ∃ D : Nat, KZ + MZ + EZ = (D : Int) := ⟨(KZ + MZ + EZ).toNat, by omega⟩
      have HDD := Lib.hid hD
      have hDb : D ≤ 12 := by omega
      clear hD
      go_wp2_with fail
      refine region_free (by kernel_rfl) (by kernel_rfl) 117 rfl [26, 27, 28, 29, 30, 31, 32, 33, 34, 35, 36, 4] [8, 10, 11, 12] [(34, 8), (36, 10), (4, 11)]
        [(26, [], fun _ => .pointer (some ⟨g, 0, none⟩)), (27, [], fun _ => .int .i64 KZ), (28, [], fun _ => .pointer (some ⟨g, 1, none⟩)), (29, [], fun _ => .int .i64 MZ), (30, [], fun _ => .int .i64 (KZ + MZ)), (31, [], fun _ => (.pointer (some ⟨w.heap.size, 3, none⟩))), (32, [], fun _ => .int .i64 p.n), (33, [], fun _ => .int .i64 (p.n.tdiv 7)), (35, [8], fun _ => .int .i64 (D : Int))]
        [[12], [12], [12], [12], [12], [12], [12], [12], [12], [12], [12], [12]] [[], [], [], [], [], [], [], [], [], [], [], [], [10, 11]] [[], [26], [], [28], [27, 29], [], [31], [32], [33], [30, 34], [35], [], [4, 36]]
        (WdS w3 (RT4 EZ D w3) 12 (stA 11 10)) (by kernel_rfl) .init ⟨?_, ?_, ?_, ?_, ?_, ?_, ?_, ?_, ?_, ?_, ?_, ?_, ?_, trivial⟩ ?_
      -- FAST13 cdot
      · (refine OpH.rd rfl rfl (fun ρ us w6 ho ht hc hl hsrc hW => ?_); have e3 := (ho 3 rfl).trans (show _ = (.pointer (some ⟨g, 0, none⟩) : Value) from rfl); clear ht ho; simp only [execOp, e3]; go_simp; try rfl)
      · (refine OpH.rd rfl rfl (fun ρ us w6 ho ht hc hl hsrc hW => ?_); have e26 := (ht 26 (by decide)).trans (show _ = (.pointer (some ⟨g, 0, none⟩) : Value) from rfl); have q := HROW3.out; have q2 := ((hW.early (hl 12 (by decide))).1.block _ (Array.getElem?_eq_some_iff.1 q).1).trans q; have z0 := cell_of_row _ _ 0 _ _ _ q2; have z1 := cell_of_row _ _ 1 _ _ _ q2; clear q q2; clear ht ho; simp only [execOp, e26]; go_simp; try rfl)
      · (refine OpH.rd rfl rfl (fun ρ us w6 ho ht hc hl hsrc hW => ?_); have e3 := (ho 3 rfl).trans (show _ = (.pointer (some ⟨g, 0, none⟩) : Value) from rfl); clear ht ho; simp only [execOp, e3]; go_simp; try rfl)
      · (refine OpH.rd rfl rfl (fun ρ us w6 ho ht hc hl hsrc hW => ?_); have e28 := (ht 28 (by decide)).trans (show _ = (.pointer (some ⟨g, 1, none⟩) : Value) from rfl); have q := HROW3.out; have q2 := ((hW.early (hl 12 (by decide))).1.block _ (Array.getElem?_eq_some_iff.1 q).1).trans q; have z0 := cell_of_row _ _ 0 _ _ _ q2; have z1 := cell_of_row _ _ 1 _ _ _ q2; clear q q2; clear ht ho; simp only [execOp, e28]; go_simp; try rfl)
      · (refine OpH.rd rfl rfl (fun ρ us w6 ho ht hc hl hsrc hW => ?_); have e27 := (ht 27 (by decide)).trans (show _ = (.int .i64 KZ : Value) from rfl); have e29 := (ht 29 (by decide)).trans (show _ = (.int .i64 MZ : Value) from rfl); clear ht ho; simp only [execOp, e27, e29]; go_simp; rw [Go.IntWalk.i64_in _ (by omega)]; rfl)
      · (refine OpH.rd rfl rfl (fun ρ us w6 ho ht hc hl hsrc hW => ?_); have e1 := (ho 1 rfl).trans (show _ = ((.pointer (some ⟨w.heap.size, 0, none⟩)) : Value) from rfl); clear ht ho; simp only [execOp, e1]; go_simp; try rfl)
      · (refine OpH.rd rfl rfl (fun ρ us w6 ho ht hc hl hsrc hW => ?_); have e31 := (ht 31 (by decide)).trans (show _ = ((.pointer (some ⟨w.heap.size, 3, none⟩)) : Value) from rfl); have y3 := CELLS.out w6 (HB3.out.trans ((hW.early (hl 12 (by decide))).1.mono HB3.out.size)); clear ht ho; simp only [execOp, e31]; go_simp; try rfl)
      · (refine OpH.rd rfl rfl (fun ρ us w6 ho ht hc hl hsrc hW => ?_); have e32 := (ht 32 (by decide)).trans (show _ = (.int .i64 p.n : Value) from rfl); clear ht ho; simp only [execOp, e32]; go_simp; exact congrArg (Value.int .i64) (quo_I64 (b := 7) (by decide) HI.out))
      · refine OpH.wr rfl (fun Z us w6 ho ht hni hlim hreq hW K hK => ?_)
        have e33 := (ht 33 (by decide)).trans (show _ = (.int .i64 (p.n.tdiv 7) : Value) from rfl)
        have hn := hlim 12 (by decide)
        have hb6 := (hW.early hn).1
        have hcst : ∀ v, Z.eval (.const v) = v := fun _ => rfl
        have hcl := WithinZ_c (w := w6) (i := p.n.tdiv 7) (n := 3) (tdiv_I64 (by decide) HI.out) (by omega) (by omega)
        rw [HEZ.out] at hcl
        refine step_call rfl 28 #[.tmp 33, .const (.int .i64 3)] #[3, 3] rfl Try.func28 (by kernel_rfl) (by kernel_rfl) #[.int .i64 (p.n.tdiv 7), .int .i64 3] (by simp [e33, hcst]) (hcl) ?_
        rintro e w7 ⟨rfl, hb7⟩
        exact ⟨_, rfl, hK _ _ (hW.snoc (by decide) hn hb7 (fun j v h => RT4.all hb7 j v h) ⟨fun _ => rfl, (fun h => absurd h (by decide)), (fun h => absurd h (by decide))⟩)⟩
      · refine OpH.rd rfl rfl (fun ρ us w6 ho ht hc hl hsrc hW => ?_)
        obtain ⟨v8, W8, l8, r8⟩ := hW.ever (hsrc 8 (by exact (List.mem_singleton.2 rfl : (8 : Nat) ∈ [8]))) (by decide)
        obtain rfl := r8.1 rfl
        have e34 := ((ht 34 (by decide)).trans (show _ = (us.lookup 8).getD undef from rfl)).trans (show _ = (.int .i64 EZ : Value) by rw [l8]; rfl)
        have e30 := (ht 30 (by decide)).trans (show _ = (.int .i64 (KZ + MZ) : Value) from rfl)
        clear ht ho hl hsrc hW l8 r8
        simp only [execOp, e34, e30]
        go_simp
        rw [Go.IntWalk.i64_in _ (by omega), HDD.out]; rfl
      · refine OpH.wr rfl (fun Z us w6 ho ht hni hlim hreq hW K hK => ?_)
        have e35 := (ht 35 (by decide)).trans (show _ = (.int .i64 (D : Int) : Value) from rfl)
        have hn := hlim 12 (by decide)
        have hcst : ∀ v, Z.eval (.const v) = v := fun _ => rfl
        have hcl := refNew_c (w := w6) (d := D) (n := 6) (by omega) (by omega)
        refine step_call rfl 35 #[.tmp 35, .const (.int .i64 6)] #[3, 3] rfl Try.func35 (by kernel_rfl) (by kernel_rfl) #[.int .i64 (D : Int), .int .i64 6] (by simp [e35, hcst]) (hcl) ?_
        rintro e w7 ⟨vs, rfl, ⟨B0, m0, d0, B1, m1, d1, rfl, _, s0, s1⟩, hb7⟩
        exact ⟨_, rfl, hK _ _ (hW.snoc (by decide) hn hb7 (fun j v h => RT4.all hb7 j v h) ⟨(fun h => absurd h (by decide)), fun _ => ⟨_, _, _, _, _, _, rfl, s0.mono (fun _ _ _ => trivial), s1.mono (fun _ _ _ => trivial)⟩, (fun h => absurd h (by decide))⟩)⟩
      · refine OpH.wr rfl (fun Z us w6 ho ht hni hlim hreq hW K hK => ?_)
        have hn := hlim 12 (by decide)
        have hdone := hW.snoc (i := 11) (x := .pointer (some ⟨w6.heap.size, 0, none⟩)) (by decide) hn ((Below.refl _ _).alloc (Nat.le_refl _) (.cells #[.slice none 0 0, .slice none 0 0] 62)) (fun j v h => RT4.all ((Below.refl _ _).alloc (Nat.le_refl _) _) j v h) ⟨(fun h => absurd h (by decide)), (fun h => absurd h (by decide)), fun _ => ⟨_, rfl, (hW.early hn).1.size, heap_alloc_new _ _⟩⟩
        have HDN := Lib.hid hdone; clear hdone hW hni hlim hreq ho ht hn
        rw [if_pos (by simp [Region.wanted])]
        unfold Oper.wp
        generalize Z.eval = ρ at *
        simp only [execOp]
        go_simp
        exact hK _ _ HDN.out
      · refine OpH.wr rfl (fun Z us w6 ho ht hni hlim hreq hW K hK => ?_)
        have hE := hW.early hni
        obtain ⟨v10, l10, m10⟩ := lookup_mem (hreq 10 (by decide))
        obtain ⟨v11, l11, m11⟩ := lookup_mem (hreq 11 (by decide))
        obtain ⟨B0, m0, d0, B1, m1, d1, rfl, _, _⟩ := (hE.2 10 v10 m10).2.1 rfl
        obtain ⟨g, rfl, hg, hr⟩ := (hE.2 11 v11 m11).2.2 rfl
        have e4 := ((ht 4 (by decide)).trans (show _ = (us.lookup 11).getD undef from rfl)).trans (show _ = (.pointer (some ⟨g, 0, none⟩) : Value) by rw [l11]; rfl)
        have e36 := ((ht 36 (by decide)).trans (show _ = (us.lookup 10).getD undef from rfl)).trans (show _ = (.agg #[.slice B0 m0 d0, .slice B1 m1 d1] : Value) by rw [l10]; rfl)
        have hst : stA 11 10 us w6 = setAll g 0 [.slice B0 m0 d0, .slice B1 m1 d1] w6 := by unfold stA; rw [l10, l11]; rfl
        have hdone := hW.store hni (x := undef)
        rw [hst] at hdone
        have f0 := (cell_of_row w6 _ 0 _ _ _ hr).trans (show _ = some (Value.slice none 0 0) from rfl)
        have f1 := (cell_of_row w6 _ 1 _ _ _ hr).trans (show _ = some (Value.slice none 0 0) from rfl)
        have f4 := frozen_of_row w6 _ 0 _ _ hr
        have f5 := frozen_of_row w6 _ 1 _ _ hr
        have HDN := Lib.hid hdone; clear hdone hW hni hlim hreq ho ht hst hr l10 l11 m10 m11 hE
        rw [if_pos (by simp [Region.wanted])]
        unfold Oper.wp
        generalize Z.eval = ρ at *
        simp only [execOp, e4, e36]
        go_simp
        exact hK undef _ HDN.out
      -- TSAF
      · intro us w9 hmem hW
        obtain ⟨us0, W6, x0, rfl, rfl, hb, hR, hn1⟩ := hW.last (hmem 12 (by decide))
        obtain ⟨v10, l10, m10⟩ := lookup_mem (before_mid (hmem 10 (by decide)) (by decide))
        obtain ⟨v11, l11, m11⟩ := lookup_mem (before_mid (hmem 11 (by decide)) (by decide))
        obtain ⟨B0, m0, d0, B1, m1, d1, rfl, t0, t1⟩ := (hR 10 v10 m10).2.1 rfl
        obtain ⟨g4, rfl, hg4, hr⟩ := (hR 11 v11 m11).2.2 rfl
        have hst : stA 11 10 us0 W6 = setAll g4 0 [.slice B0 m0 d0, .slice B1 m1 d1] W6 := by unfold stA; rw [l10, l11]; rfl
        rw [hst]
        have hrow := setAll_2 (a := .slice B0 m0 d0) (b := .slice B1 m1 d1) hr
        have hT : Turns (fun _ => True) 62 W6 (setAll g4 0 [.slice B0 m0 d0, .slice B1 m1 d1] W6) := turnsAll trivial _ _ _ _ (Turns.refl _ _ _) (shape_of_cells hr)
        have hB9 := setAll_below (g := g4) (m := w3.heap.size) hg4 [.slice B0 m0 d0, .slice B1 m1 d1] 0 W6 hb
        have q0 := hT.sl (boolE_avoids _) (by decide) t0
        have q1 := hT.sl (Avoids.slE (intE_avoids _) (by decide)) (by decide) t1
        simp only [putAll, List.map_cons, List.map_nil, List.foldl_cons, List.foldl_nil, Act.put, List.setIfInBounds_toArray, List.set_cons_succ, List.set_cons_zero]
        generalize hsv : slotAt _ _ _ = sv
        have s4 : sv 4 = .pointer (some ⟨g4, 0, none⟩) := by rw [← hsv]; show ((us0 ++ [(12, x0)]).lookup 11).getD undef = _; rw [lookup_mid (by decide), l11]; rfl
        rw [s4]
        clear hsv s4 hst hb hR hn1 hW hmem l10 l11 m10 m11 hr hg4 t0 t1 hT
        generalize setAll g4 0 [.slice B0 m0 d0, .slice B1 m1 d1] W6 = w4 at *
        have HQ := Lib.hid (show TB g g4 KZ MZ (newX D 6) B0 m0 d0 B1 m1 d1 w4 from ⟨(hB9.block _ (Array.getElem?_eq_some_iff.1 HROW3.out).1).trans HROW3.out, hrow, q0, q1⟩); clear hrow q0 q1
        have HB4 := Lib.hid (HB3.out.trans (hB9.mono HB3.out.size)); clear hB9 HB3 HROW3
        obtain ⟨k, hk⟩ : ∃ k : Nat, KZ + MZ = (k : Int) := ⟨(KZ + MZ).toNat, by omega⟩
        have HKK := Lib.hid hk
        have hsh : shapeOk (⟨KZ, MZ, 4⟩ : Shape) = true := by unfold shapeOk; exact decide_eq_true (by show 1 ≤ KZ ∧ KZ ≤ 8 ∧ 0 ≤ MZ ∧ MZ ≤ 6 ∧ (1 : Int) ≤ 4 ∧ (4 : Int) ≤ 120; omega)
        have hok : SlotsOk (newX D 6) := new6_ok (by have := HDD.out; omega) hDb
        have HOK := Lib.hid (fun j => turnsX_ok hok k j)
        have hfit : ∀ n, n < 5 → firstErr (newX D 6) k n = 0 ∧ spreadX (turnsX (newX D 6) k n) ≤ 1 + (k : Int) := by
          obtain ⟨a, ha⟩ : ∃ a : Nat, KZ = (a : Int) + 1 := ⟨(KZ - 1).toNat, by omega⟩
          obtain ⟨b, hb⟩ : ∃ b : Nat, MZ = (b : Int) := ⟨MZ.toNat, by omega⟩
          obtain ⟨e, he⟩ : ∃ e : Nat, EZ = (e : Int) := ⟨EZ.toNat, by omega⟩
          have h1 := HDD.out
          obtain rfl : k = a + 1 + b := by omega
          obtain rfl : D = a + 1 + b + e := by omega
          exact newFits a (by omega) b (by omega) e (by omega)
        have HFIT := Lib.hid hfit
        have HT := Lib.hid (fun (n : Nat) (h1 : 1 ≤ n) (h5 : n < 5) => textR_turns (s := (⟨KZ, MZ, 4⟩ : Shape)) (n := n) hsh hok hk (by omega) (show 0 < KZ * 4 by omega) (by show (n : Int) * (KZ * 4) ≤ 2000; have : (n : Int) * (KZ * 4) ≤ 4 * 12 := Int.mul_le_mul (by omega) (by omega) (by omega) (by omega); omega) h1 (hfit n h5).1)
        have H1 : Hid (∀ j, j < 4 → textR (⟨KZ, MZ, 4⟩ : Shape) (turnsX (newX D 6) k j) (KZ * 4) = ([takeL (turnsX (newX D 6) k j) k []], turnsX (newX D 6) k (j + 1), 0)) := Lib.hid (fun j h4 => by
          have h0 := firstErr_ok (hfit (j + 1) (by omega)).1 j (by omega)
          have h := textR_turns (s := (⟨KZ, MZ, 4⟩ : Shape)) (x := turnsX (newX D 6) k j) (n := 1) hsh (turnsX_ok hok k j) hk (by omega) (show 0 < KZ * 4 by omega) (by show ((1 : Nat) : Int) * (KZ * 4) ≤ 2000; omega) (Nat.le_refl _) (by rw [firstErr_one]; exact h0)
          rw [show ((1 : Nat) : Int) * ((⟨KZ, MZ, 4⟩ : Shape).K * (⟨KZ, MZ, 4⟩ : Shape).size) = KZ * 4 by show ((1 : Nat) : Int) * (KZ * 4) = KZ * 4; omega] at h
          rw [h]; rfl)
        clear hfit hok hsh hk HEZ
        have z0 := cell_of_row _ _ 0 _ _ _ HQ.out.rs
        have z1 := cell_of_row _ _ 1 _ _ _ HQ.out.rs
        have z2 := cell_of_row _ _ 2 _ _ _ HQ.out.rs
        go_wp2_with fail
        clear z0 z1 z2
        go_loopw [6] (fun i wr => ∃ n : Nat, 1 ≤ n ∧ n ≤ 5 ∧ i = .int .i64 n ∧ Hid (Below W0.heap.size W0 wr) ∧ Hid (TB g g4 KZ MZ (newX D 6) B0 m0 d0 B1 m1 d1 wr)) (fun i _ => 5 - (intOf i).toNat)
        case atStart => exact ⟨1, Nat.le_refl _, by omega, rfl, HB4, HQ⟩
        case round =>
          obtain ⟨n, hn1, hn5, rfl, HBr, HQr⟩ := hrel
          clear HB4 HQ
          have hWr := HBr.out.size
          by_cases hlt : n < 5
          · have hmu0 : 0 ≤ (n : Int) * (KZ * 4) := Int.mul_nonneg (by omega) (by omega)
            have hmu1 : (n : Int) * (KZ * 4) ≤ 4 * 12 := Int.mul_le_mul (by omega) (by omega) (by omega) (by omega)
            have hcl := Text_c (s := (⟨KZ, MZ, 4⟩ : Shape)) (n := (n : Int) * (KZ * 4)) (by unfold I64; omega) HQr.out.x0 HQr.out.x1
            rw [HT.out n hn1 hlt] at hcl
            have HCL := Lib.hid hcl; clear hcl
            have z0 := cell_of_row _ _ 0 _ _ _ HQr.out.rs
            have z1 := cell_of_row _ _ 1 _ _ _ HQr.out.rs
            have z2 := cell_of_row _ _ 2 _ _ _ HQr.out.rs
            have z3 := cell_of_row _ _ 0 _ _ _ HQr.out.rx
            have z4 := cell_of_row _ _ 1 _ _ _ HQr.out.rx
            go_wp2_with fail
            refine HCL.out.mono ?_
            clear HCL z0 z1 z2 z3 z4 hmu0 hmu1
            rintro e w5 ⟨A, m, c, C0, e0, f0, C1, e1, f1, rfl, sl, t0, t1, hb5⟩
            obtain rfl : m = n := by have := sl.len; dsimp only at this; rw [fitL_len] at this; omega
            have HB5 := Lib.hid hb5; clear hb5
            have HS5 := Lib.hid (And.intro sl (And.intro t0 t1)); clear sl t0 t1
            have HQ5 := Lib.hid (HQr.out.all HB5.out)
            go_upto_region 10 with (fail)
            have hal8 : Below w5.heap.size w5 (w5.alloc (.cells #[.slice C0 e0 f0, .slice C1 e1 f1] 62)) := (Below.refl _ _).alloc (Nat.le_refl _) _
            have HR8 := Lib.hid (heap_alloc_new w5 (.cells #[.slice C0 e0 f0, .slice C1 e1 f1] 62))
            have hg8 : w5.heap.size < (w5.alloc (.cells #[.slice C0 e0 f0, .slice C1 e1 f1] 62)).heap.size := by simp
            have hr5 := HB5.out.size
            generalize (w5.alloc (.cells #[.slice C0 e0 f0, .slice C1 e1 f1] 62)) = W8 at *
            have HQ8 := Lib.hid (HQ5.out.all hal8)
            have HS8 := Lib.hid (And.intro (HS5.out.1.all hal8) (And.intro (HS5.out.2.1.all hal8) (HS5.out.2.2.all hal8)))
            have HB8 := Lib.hid (HB5.out.trans (hal8.mono hr5))
            generalize w5.heap.size = g8 at *
            clear hal8 HQ5 HS5 HB5
            have z3 := cell_of_row _ _ 0 _ _ _ HQ8.out.rx
            have z4 := cell_of_row _ _ 1 _ _ _ HQ8.out.rx
            go_upto_region 11 with (fail)
            clear z3 z4
            have hal9 : Below W8.heap.size W8 (W8.alloc (.cells #[.slice B0 m0 d0, .slice B1 m1 d1] 62)) := (Below.refl _ _).alloc (Nat.le_refl _) _
            have HR9 := Lib.hid (heap_alloc_new W8 (.cells #[.slice B0 m0 d0, .slice B1 m1 d1] 62))
            generalize (W8.alloc (.cells #[.slice B0 m0 d0, .slice B1 m1 d1] 62)) = W9 at *
            have HQ9 := Lib.hid (HQ8.out.all hal9)
            have HB9 := Lib.hid (HB8.out.trans (hal9.mono HB8.out.size))
            generalize hgg : W8.heap.size = g10 at *
            have hne : g8 ≠ g10 := by omega
            have hg10 : wr.heap.size ≤ g10 := by have := HB8.out.size; omega
            obtain ⟨bA, oA, rfl, _⟩ := HS8.out.1.2.2.2 (by omega)
            have HU9 := Lib.hid (show UB g8 g10 (some ⟨bA, oA, none⟩) m c (fitL (newX D 6) k m) C0 e0 f0 C1 e1 f1 (turnsX (newX D 6) k m) (turnsX (newX D 6) k 0) B0 m0 d0 B1 m1 d1 W9 from
              ⟨(HS8.out.1.all (hgg.symm ▸ hal9)).mono (fun _ _ _ => trivial), (hal9.block _ (by omega)).trans HR8.out, (HS8.out.2.1.all (hgg.symm ▸ hal9)).mono (fun _ _ _ => trivial), (HS8.out.2.2.all (hgg.symm ▸ hal9)).mono (fun _ _ _ => trivial), HR9.out, HQ9.out.x0, HQ9.out.x1⟩)
            clear HS8 HR8 HR9 HQ8 HB8 hal9 hgg HQ9
            go_wp2_with fail
            go_loopw [11] (fun i wi => ∃ j : Nat, j ≤ m ∧ i = .int .i64 j ∧ ∃ U0 a0 b0 U1 a1 b1, Hid (Below wr.heap.size wr wi) ∧ Hid (UB g8 g10 (some ⟨bA, oA, none⟩) m c (fitL (newX D 6) k m) C0 e0 f0 C1 e1 f1 (turnsX (newX D 6) k m) (turnsX (newX D 6) k j) U0 a0 b0 U1 a1 b1 wi)) (fun i _ => m - (intOf i).toNat)
            case atStart => exact ⟨0, Nat.zero_le _, rfl, _, _, _, _, _, _, HB9, HU9⟩
            case round =>
              rename World => wi
              obtain ⟨j, hjm, rfl, U0, a0, b0, U1, a1, b1, HBi, HU⟩ := hrel
              clear HB9 HU9
              have HQi := Lib.hid (HQr.out.all HBi.out)
              by_cases hj : j < m
              · have hcl := Text_c (s := (⟨KZ, MZ, 4⟩ : Shape)) (n := KZ * 4) (by unfold I64; omega) HU.out.u0 HU.out.u1
                rw [H1.out j (by omega)] at hcl
                have HCL := Lib.hid hcl; clear hcl
                have z0 := cell_of_row _ _ 0 _ _ _ HQi.out.rs
                have z1 := cell_of_row _ _ 1 _ _ _ HQi.out.rs
                have z2 := cell_of_row _ _ 2 _ _ _ HQi.out.rs
                have z3 := cell_of_row _ _ 0 _ _ _ HU.out.r10
                have z4 := cell_of_row _ _ 1 _ _ _ HU.out.r10
                go_wp2_with fail
                refine HCL.out.mono ?_
                clear HCL z0 z1 z2 z3 z4
                rintro e w7 ⟨A2, m2, c2, V0, p0, q0, V1, p1, q1, rfl, sl2, v0, v1, hb7⟩
                obtain rfl : m2 = 1 := by have := sl2.len; dsimp only at this; simpa using this.symm
                obtain ⟨b, o, Ar, mr, cr, rfl, _, hbl, hrow, l1, _⟩ := sl2.sl_at (k := 0) (by omega)
                have HU7 := Lib.hid (HU.out.all hb7)
                have HB7 := Lib.hid (HBi.out.trans (hb7.mono HBi.out.size)); clear hb7 sl2
                obtain ⟨b', o', Al, ml, cl, hbb, _, hbl2, hrow2, l2, _⟩ := HU7.out.sl.sl_at (k := j) hj
                injection hbb with hbb; injection hbb with hb1 hb2 _; subst hb1; subst hb2
                rw [show (fitL (newX D 6) k m).getD j [] = takeL (turnsX (newX D 6) k j) k [] by rw [List.getD_eq_getElem?_getD, fitL_at hj]; rfl] at hrow2
                have hrow' : Sl true 104 slotE w7 (fun b => wi.heap.size ≤ b) Ar mr cr (takeL (turnsX (newX D 6) k j) k []) := hrow
                go_upto_region 15 with (fail)
                have hal : Below w7.heap.size w7 (w7.alloc (.cells #[.slice V0 p0 q0, .slice V1 p1 q1] 62)) := (Below.refl _ _).alloc (Nat.le_refl _) _
                have HR13 := Lib.hid (heap_alloc_new w7 (.cells #[.slice V0 p0 q0, .slice V1 p1 q1] 62))
                have hl1 : b < (w7.alloc (.cells #[.slice V0 p0 q0, .slice V1 p1 q1] 62)).heap.size := by simp; omega
                have hl2 : bA < (w7.alloc (.cells #[.slice V0 p0 q0, .slice V1 p1 q1] 62)).heap.size := by simp; omega
                generalize (w7.alloc (.cells #[.slice V0 p0 q0, .slice V1 p1 q1] 62)) = w8 at *
                have HCR : Hid (∀ V, Below w8.heap.size w8 V → V.cell? ⟨b, o, none⟩ = some (.slice Ar mr cr) ∧ V.cell? ⟨bA, oA + j, none⟩ = some (.slice Al ml cl)) := Lib.hid (fun V hV =>
                  ⟨(hV.cell (p := ⟨b, o, none⟩) hl1).trans ((hal.cell (p := ⟨b, o, none⟩) hbl).trans l1), (hV.cell (p := ⟨bA, oA + j, none⟩) hl2).trans ((hal.cell (p := ⟨bA, oA + j, none⟩) hbl2).trans l2)⟩)
                have HSR := Lib.hid (And.intro (hrow'.all hal) (hrow2.all hal))
                have HVV := Lib.hid (And.intro (Sl.all v0 hal) (Sl.all v1 hal))
                have HU8 := Lib.hid (HU7.out.all hal)
                have HB8 := Lib.hid (HB7.out.trans (hal.mono HB7.out.size))
                generalize w7.heap.size = g13 at *
                clear hal hrow hrow' hrow2 l1 l2 hbl hbl2 v0 v1 HU7 HB7 HU hl1 hl2
                have HB89 := Lib.hid (Below.refl w8.heap.size w8)
                go_wp2_with fail
                refine region_free (by kernel_rfl) (by kernel_rfl) 117 rfl [70, 71, 72, 73, 74, 75, 76, 77, 78, 79, 80, 81, 82, 83, 84, 85, 86, 87, 88, 89, 90, 91, 92, 93, 94, 95, 96, 97, 98, 99] [1, 5, 27] [(71, 1), (75, 5), (97, 27)]
                  [(70, [], fun _ => .int .i64 0), (72, [1], fun _ => .bool false), (73, [1], fun _ => .bool false), (74, [], fun _ => .int .i64 0), (76, [5], fun _ => .bool false), (77, [], fun _ => .bool false), (78, [], fun _ => .bool false), (79, [], fun _ => .slice (some ⟨b, o, none⟩) 1 c2), (80, [], fun _ => .int .i64 1), (81, [], fun _ => .bool false), (82, [], fun _ => .bool false), (83, [], fun _ => .bool false), (84, [], fun _ => .slice (some ⟨bA, oA, none⟩) m c), (85, [], fun _ => .int .i64 (m : Int)), (86, [], fun _ => .int .i64 (m : Int)), (87, [], fun _ => .bool false), (88, [], fun _ => .bool false), (89, [], fun _ => .bool false), (90, [], fun _ => .slice (some ⟨b, o, none⟩) 1 c2), (91, [], fun _ => .pointer (some ⟨b, o, none⟩)), (92, [], fun _ => .slice Ar mr cr), (93, [], fun _ => .slice (some ⟨bA, oA, none⟩) m c), (94, [], fun _ => .int .i64 (j : Int)), (95, [], fun _ => .pointer (some ⟨bA, oA + j, none⟩)), (96, [], fun _ => .slice Al ml cl), (98, [27], fun _ => .bool false), (99, [], fun _ => .bool false)]
                  [] [] [[], [70], [71], [72], [73], [74, 73], [75, 73], [73, 76], [77], [78], [79, 78], [80, 78], [78, 81], [82], [83], [84, 83], [83], [85, 86, 83], [83, 87], [88], [89], [90, 89], [91, 89], [89], [89], [93, 94, 89], [95, 89], [92, 96, 89], [97, 89], [89, 98]]
                  (WdB w8 (fun i v _ => (i = 1 → v = .int .i64 0) ∧ (i = 5 → v = .int .i64 0) ∧ (i = 27 → v = .bool true))) (by kernel_rfl) .init ⟨?_, ?_, ?_, ?_, ?_, ?_, ?_, ?_, ?_, ?_, ?_, ?_, ?_, ?_, ?_, ?_, ?_, ?_, ?_, ?_, ?_, ?_, ?_, ?_, ?_, ?_, ?_, ?_, ?_, ?_, trivial⟩ ?_
                -- FAST30 cdot
                · (refine OpH.rd rfl rfl (fun ρ us w6 ho ht hc hl hsrc hW => ?_); have e9 := (ho 9 rfl).trans (show _ = (.int .i64 0 : Value) from rfl); clear ht ho; simp only [execOp, e9]; go_simp; try rfl)
                · refine OpH.wr rfl (fun Z us w6 ho ht hni hlim hreq hW K hK => ?_)
                  have e70 := (ht 70 (by decide)).trans (show _ = (.int .i64 0 : Value) from rfl)
                  have hcl := num18_c (w := w6) (e := 0)
                  refine step_call rfl 37 #[.tmp 70] #[39] rfl Try.func37 (by kernel_rfl) (by kernel_rfl) #[.int .i64 0] (by simp [e70]) (hcl) ?_
                  rintro e w7 ⟨rfl, hb7⟩
                  exact ⟨_, rfl, hK _ _ (hW.snoc hb7 (fun j v h => h) (⟨fun _ => rfl, fun h => absurd h (by decide), fun h => absurd h (by decide)⟩))⟩
                · (refine OpH.rd rfl rfl (fun ρ us w6 ho ht hc hl hsrc hW => ?_); have e71 := (ht 71 (by decide)).trans (show _ = ((us.lookup 1).getD undef : Value) from rfl); rw [(hW.at_ (hsrc 1 (by exact (List.mem_singleton.2 rfl : (1 : Nat) ∈ [1])))).1 rfl] at e71; clear ht ho; simp only [execOp, e71]; go_simp; try rfl)
                · (refine OpH.rd rfl rfl (fun ρ us w6 ho ht hc hl hsrc hW => ?_); have e72 := (ht 72 (by decide)).trans (show _ = (.bool false : Value) from rfl); clear ht ho; simp only [execOp, e72]; go_simp; try rfl)
                · (refine OpH.rdg rfl 3 73 false rfl rfl (by decide) (fun _ _ _ => rfl) (fun ρ us w6 ho ht hc hl hsrc hW => ?_); have e14 := (ho 14 rfl).trans (show _ = (.int .i64 0 : Value) from rfl); clear ht ho; simp only [execOp, e14]; go_simp; try rfl)
                · refine OpH.wr rfl (fun Z us w6 ho ht hni hlim hreq hW K hK => ?_)
                  have e74 := (ht 74 (by decide)).trans (show _ = (.int .i64 0 : Value) from rfl)
                  have hcl := num18_c (w := w6) (e := 0)
                  have eg := (ht 73 (by decide)).trans (show _ = (.bool false : Value) from rfl)
                  refine step_callw (GuardOk.wanted (.at_ (j := 3) (t := 73) (b := false) rfl rfl eg)) 37 #[.tmp 74] #[39] rfl Try.func37 (by kernel_rfl) (by kernel_rfl) #[.int .i64 0] (by simp [e74]; try rfl) hcl ?_
                  rintro e w7 ⟨rfl, hb7⟩
                  exact ⟨_, rfl, hK _ _ (hW.snoc hb7 (fun j v h => h) (⟨fun h => absurd h (by decide), fun _ => rfl, fun h => absurd h (by decide)⟩))⟩
                · (refine OpH.rdg rfl 3 73 false rfl rfl (by decide) (fun _ _ _ => rfl) (fun ρ us w6 ho ht hc hl hsrc hW => ?_); have e75 := (ht 75 (by decide)).trans (show _ = ((us.lookup 5).getD undef : Value) from rfl); rw [(hW.at_ (hsrc 5 (by exact (List.mem_singleton.2 rfl : (5 : Nat) ∈ [5])))).2.1 rfl] at e75; clear ht ho; simp only [execOp, e75]; go_simp; try rfl)
                · (refine OpH.rd rfl rfl (fun ρ us w6 ho ht hc hl hsrc hW => ?_); have e73 := (ht 73 (by decide)).trans (show _ = (.bool false : Value) from rfl); have e76 := (ht 76 (by decide)).trans (show _ = (.bool false : Value) from rfl); clear ht ho; simp only [execOp, e73, e76]; go_simp; try rfl)
                · (refine OpH.rd rfl rfl (fun ρ us w6 ho ht hc hl hsrc hW => ?_); have e77 := (ht 77 (by decide)).trans (show _ = (.bool false : Value) from rfl); clear ht ho; simp only [execOp, e77]; go_simp; try rfl)
                · (refine OpH.rdg rfl 8 78 false rfl rfl (by decide) (fun _ _ _ => rfl) (fun ρ us w6 ho ht hc hl hsrc hW => ?_); have e12 := (ho 12 rfl).trans (show _ = (.slice (some ⟨b, o, none⟩) 1 c2 : Value) from rfl); clear ht ho; simp only [execOp, e12]; go_simp; try rfl)
                · (refine OpH.rdg rfl 8 78 false rfl rfl (by decide) (fun _ _ _ => rfl) (fun ρ us w6 ho ht hc hl hsrc hW => ?_); have e79 := (ht 79 (by decide)).trans (show _ = (.slice (some ⟨b, o, none⟩) 1 c2 : Value) from rfl); clear ht ho; simp only [execOp]; go_simp; try rfl)
                · (refine OpH.rdg rfl 8 78 false rfl rfl (by decide) (fun _ _ _ => rfl) (fun ρ us w6 ho ht hc hl hsrc hW => ?_); have e80 := (ht 80 (by decide)).trans (show _ = (.int .i64 1 : Value) from rfl); clear ht ho; simp only [execOp, e80]; go_simp; try rfl)
                · (refine OpH.rd rfl rfl (fun ρ us w6 ho ht hc hl hsrc hW => ?_); have e78 := (ht 78 (by decide)).trans (show _ = (.bool false : Value) from rfl); have e81 := (ht 81 (by decide)).trans (show _ = (.bool false : Value) from rfl); clear ht ho; simp only [execOp, e78, e81]; go_simp; try rfl)
                · (refine OpH.rd rfl rfl (fun ρ us w6 ho ht hc hl hsrc hW => ?_); have e82 := (ht 82 (by decide)).trans (show _ = (.bool false : Value) from rfl); clear ht ho; simp only [execOp, e82]; go_simp; try rfl)
                · (refine OpH.rdg rfl 13 83 false rfl rfl (by decide) (fun _ _ _ => rfl) (fun ρ us w6 ho ht hc hl hsrc hW => ?_); have e7 := (ho 7 rfl).trans (show _ = (.slice (some ⟨bA, oA, none⟩) m c : Value) from rfl); clear ht ho; simp only [execOp, e7]; go_simp; try rfl)
                · (refine OpH.rdg rfl 13 83 false rfl rfl (by decide) (fun _ _ _ => rfl) (fun ρ us w6 ho ht hc hl hsrc hW => ?_); have e84 := (ht 84 (by decide)).trans (show _ = (.slice (some ⟨bA, oA, none⟩) m c : Value) from rfl); clear ht ho; simp only [execOp]; go_simp; try rfl)
                · (refine OpH.rdg rfl 13 83 false rfl rfl (by decide) (fun _ _ _ => rfl) (fun ρ us w6 ho ht hc hl hsrc hW => ?_); have e6 := (ho 6 rfl).trans (show _ = (.int .i64 (m : Int) : Value) from rfl); clear ht ho; simp only [execOp, e6]; go_simp; try rfl)
                · (refine OpH.rdg rfl 13 83 false rfl rfl (by decide) (fun _ _ _ => rfl) (fun ρ us w6 ho ht hc hl hsrc hW => ?_); have e85 := (ht 85 (by decide)).trans (show _ = (.int .i64 (m : Int) : Value) from rfl); have e86 := (ht 86 (by decide)).trans (show _ = (.int .i64 (m : Int) : Value) from rfl); clear ht ho; simp only [execOp, e85, e86]; go_simp; try rfl)
                · (refine OpH.rd rfl rfl (fun ρ us w6 ho ht hc hl hsrc hW => ?_); have e83 := (ht 83 (by decide)).trans (show _ = (.bool false : Value) from rfl); have e87 := (ht 87 (by decide)).trans (show _ = (.bool false : Value) from rfl); clear ht ho; simp only [execOp, e83, e87]; go_simp; try rfl)
                · (refine OpH.rd rfl rfl (fun ρ us w6 ho ht hc hl hsrc hW => ?_); have e88 := (ht 88 (by decide)).trans (show _ = (.bool false : Value) from rfl); clear ht ho; simp only [execOp, e88]; go_simp; try rfl)
                · (refine OpH.rdg rfl 19 89 false rfl rfl (by decide) (fun _ _ _ => rfl) (fun ρ us w6 ho ht hc hl hsrc hW => ?_); have e12 := (ho 12 rfl).trans (show _ = (.slice (some ⟨b, o, none⟩) 1 c2 : Value) from rfl); clear ht ho; simp only [execOp, e12]; go_simp; try rfl)
                · (refine OpH.rdg rfl 19 89 false rfl rfl (by decide) (fun _ _ _ => rfl) (fun ρ us w6 ho ht hc hl hsrc hW => ?_); have e90 := (ht 90 (by decide)).trans (show _ = (.slice (some ⟨b, o, none⟩) 1 c2 : Value) from rfl); clear ht ho; simp only [execOp, e90]; go_simp; try rfl)
                · (refine OpH.rdg rfl 19 89 false rfl rfl (by decide) (fun _ _ _ => rfl) (fun ρ us w6 ho ht hc hl hsrc hW => ?_); have e91 := (ht 91 (by decide)).trans (show _ = (.pointer (some ⟨b, o, none⟩) : Value) from rfl); have q1 := HCR.out w6 hW.1; have q1 := q1.1; clear ht ho; simp only [execOp, e91]; go_simp; try rfl)
                · (refine OpH.rdg rfl 19 89 false rfl rfl (by decide) (fun _ _ _ => rfl) (fun ρ us w6 ho ht hc hl hsrc hW => ?_); have e7 := (ho 7 rfl).trans (show _ = (.slice (some ⟨bA, oA, none⟩) m c : Value) from rfl); clear ht ho; simp only [execOp, e7]; go_simp; try rfl)
                · (refine OpH.rdg rfl 19 89 false rfl rfl (by decide) (fun _ _ _ => rfl) (fun ρ us w6 ho ht hc hl hsrc hW => ?_); have e11 := (ho 11 rfl).trans (show _ = (.int .i64 (j : Int) : Value) from rfl); clear ht ho; simp only [execOp, e11]; go_simp; try rfl)
                · (refine OpH.rdg rfl 19 89 false rfl rfl (by decide) (fun _ _ _ => rfl) (fun ρ us w6 ho ht hc hl hsrc hW => ?_); have e93 := (ht 93 (by decide)).trans (show _ = (.slice (some ⟨bA, oA, none⟩) m c : Value) from rfl); have e94 := (ht 94 (by decide)).trans (show _ = (.int .i64 (j : Int) : Value) from rfl); clear ht ho; simp only [execOp, e93, e94]; go_simp; try rfl)
                · (refine OpH.rdg rfl 19 89 false rfl rfl (by decide) (fun _ _ _ => rfl) (fun ρ us w6 ho ht hc hl hsrc hW => ?_); have e95 := (ht 95 (by decide)).trans (show _ = (.pointer (some ⟨bA, oA + j, none⟩) : Value) from rfl); have q1 := HCR.out w6 hW.1; have q1 := q1.2; clear ht ho; simp only [execOp, e95]; go_simp; try rfl)
                · refine OpH.wr rfl (fun Z us w6 ho ht hni hlim hreq hW K hK => ?_)
                  have e92 := (ht 92 (by decide)).trans (show _ = (.slice Ar mr cr : Value) from rfl)
                  have e96 := (ht 96 (by decide)).trans (show _ = (.slice Al ml cl : Value) from rfl)
                  have hcl := EqSlotList_c (w := w6) (HSR.out.1.all hW.1) (HSR.out.2.all hW.1)
                  rw [decide_eq_true (by rfl)] at hcl
                  have eg := (ht 89 (by decide)).trans (show _ = (.bool false : Value) from rfl)
                  refine step_callw (GuardOk.wanted (.at_ (j := 19) (t := 89) (b := false) rfl rfl eg)) 38 #[.tmp 92, .tmp 96] #[71, 71] rfl Try.func38 (by kernel_rfl) (by kernel_rfl) #[.slice Ar mr cr, .slice Al ml cl] (by simp [e92, e96]; try rfl) hcl ?_
                  rintro e w7 ⟨rfl, hb7⟩
                  exact ⟨_, rfl, hK _ _ (hW.snoc hb7 (fun j v h => h) (⟨fun h => absurd h (by decide), fun h => absurd h (by decide), fun _ => rfl⟩))⟩
                · (refine OpH.rdg rfl 19 89 false rfl rfl (by decide) (fun _ _ _ => rfl) (fun ρ us w6 ho ht hc hl hsrc hW => ?_); have e97 := (ht 97 (by decide)).trans (show _ = ((us.lookup 27).getD undef : Value) from rfl); rw [(hW.at_ (hsrc 27 (by exact (List.mem_singleton.2 rfl : (27 : Nat) ∈ [27])))).2.2 rfl] at e97; clear ht ho; simp only [execOp, e97]; go_simp; try rfl)
                · (refine OpH.rd rfl rfl (fun ρ us w6 ho ht hc hl hsrc hW => ?_); have e89 := (ht 89 (by decide)).trans (show _ = (.bool false : Value) from rfl); have e98 := (ht 98 (by decide)).trans (show _ = (.bool false : Value) from rfl); clear ht ho; simp only [execOp, e89, e98]; go_simp; try rfl)
                -- TSAF
                · intro us w9 hmem hW
                  simp only [putAll, List.map_cons, List.map_nil, List.foldl_cons, List.foldl_nil, Act.put, List.setIfInBounds_toArray, List.set_cons_succ, List.set_cons_zero]
                  generalize hsv : slotAt _ _ us = sv
                  have hq : sv 99 = .bool false := by rw [← hsv]; rfl
                  rw [hq]
                  have HB89 := Lib.hid (HB89.out.trans (hW.1.mono HB89.out.size))
                  clear hsv hq hmem hW
                  have HU9 := Lib.hid (HU8.out.all HB89.out)
                  have HV9 := Lib.hid (And.intro (HVV.out.1.all HB89.out) (HVV.out.2.all HB89.out))
                  have hr13 := (HB89.out.block _ (Array.getElem?_eq_some_iff.1 HR13.out).1).trans HR13.out
                  have z0 := cell_of_row _ _ 0 _ _ _ hr13
                  have z1 := cell_of_row _ _ 1 _ _ _ hr13
                  have y0 := cell_of_row _ _ 0 _ _ _ HU9.out.r10
                  have y1 := cell_of_row _ _ 1 _ _ _ HU9.out.r10
                  have y2 := frozen_of_row _ _ 0 _ _ HU9.out.r10
                  have y3 := frozen_of_row _ _ 1 _ _ HU9.out.r10
                  have HP := Lib.hid (HU9.out.put hne (HV9.out.1.mono (fun _ _ _ => trivial)) (HV9.out.2.mono (fun _ _ _ => trivial)))
                  have HB10 := Lib.hid (show Below wr.heap.size wr ((w9.setCell ⟨g10, 0, none⟩ (.slice V0 p0 q0)).setCell ⟨g10, 1, none⟩ (.slice V1 p1 q1)) from setAll_below (g := g10) hg10 [.slice V0 p0 q0, .slice V1 p1 q1] 0 w9 (HB8.out.trans (HB89.out.mono HB8.out.size)))
                  clear HB89 HB8 HU8 HU9 HV9 HVV HR13 hr13 HSR HCR HQi HBi
                  go_upto_region 13 with (fail)
                  clear z0 z1 y0 y1 y2 y3
                  generalize ((w9.setCell ⟨g10, 0, none⟩ (.slice V0 p0 q0)).setCell ⟨g10, 1, none⟩ (.slice V1 p1 q1)) = wn at *
                  go_wp2
                  exact ⟨⟨j + 1, by omega, by simp [Int.natCast_add], _, _, _, _, _, _, HB10, HP⟩, by simp [intOf]; omega⟩
              · obtain rfl : j = m := by omega
                have HYOK := Lib.hid (HOK.out j)
                have hfi := (HFIT.out j hlt).2
                generalize hspr : spreadX (turnsX (newX D 6) k j) = SPR at *
                have HSPR := Lib.hid hspr; clear hspr
                have hk' := HKK.out
                have HC18 : Hid (∀ V, Below wi.heap.size wi V → V.cell? ⟨g, 0, none⟩ = some (.int .i64 KZ) ∧ V.cell? ⟨g, 1, none⟩ = some (.int .i64 MZ) ∧ V.cell? ⟨g8, 0, none⟩ = some (.slice C0 e0 f0) ∧ V.cell? ⟨g8, 1, none⟩ = some (.slice C1 e1 f1) ∧ V.cell? ⟨g10, 0, none⟩ = some (.slice U0 a0 b0) ∧ V.cell? ⟨g10, 1, none⟩ = some (.slice U1 a1 b1)) := Lib.hid (fun V hV => by
                  have h1 := HQi.out.all hV
                  have h2 := HU.out.all hV
                  exact ⟨cell_of_row _ _ 0 _ _ _ h1.rs, cell_of_row _ _ 1 _ _ _ h1.rs, cell_of_row _ _ 0 _ _ _ h2.r8, cell_of_row _ _ 1 _ _ _ h2.r8, cell_of_row _ _ 0 _ _ _ h2.r10, cell_of_row _ _ 1 _ _ _ h2.r10⟩)
                go_wp2_with fail
                refine region_free (by kernel_rfl) (by kernel_rfl) 117 rfl [101, 102, 103, 104, 105, 106, 107, 108, 109, 110, 111, 112, 113, 114, 115] [2, 6] [(103, 2), (107, 6)]
                  [(101, [], fun _ => .agg #[.slice U0 a0 b0, .slice U1 a1 b1]), (102, [], fun _ => .agg #[.slice C0 e0 f0, .slice C1 e1 f1]), (104, [2], fun _ => .bool false), (105, [2], fun _ => .bool false), (106, [], fun _ => .agg #[.slice C0 e0 f0, .slice C1 e1 f1]), (108, [], fun _ => .pointer (some ⟨g, 0, none⟩)), (109, [], fun _ => .int .i64 KZ), (110, [], fun _ => .int .i64 (1 + KZ)), (111, [], fun _ => .pointer (some ⟨g, 1, none⟩)), (112, [], fun _ => .int .i64 MZ), (113, [], fun _ => .int .i64 (1 + KZ + MZ)), (114, [6], fun _ => .bool false), (115, [], fun _ => .bool false)]
                  [] [] [[], [], [101, 102], [103], [104], [105], [106, 105], [105], [108, 105], [109, 105], [105], [111, 105], [110, 112, 105], [107, 113, 105], [105, 114]]
                  (WdB wi (fun i v _ => (i = 2 → v = .bool true) ∧ (i = 6 → v = .int .i64 SPR))) (by kernel_rfl) .init ⟨?_, ?_, ?_, ?_, ?_, ?_, ?_, ?_, ?_, ?_, ?_, ?_, ?_, ?_, ?_, trivial⟩ ?_
                -- FAST15 cdot
                · (refine OpH.rd rfl rfl (fun ρ us w6 ho ht hc hl hsrc hW => ?_); have e10 := (ho 10 rfl).trans (show _ = (.pointer (some ⟨g10, 0, none⟩) : Value) from rfl); obtain ⟨z0, z1, y0, y1, y2, y3⟩ := HC18.out w6 hW.1; clear ht ho; simp only [execOp, e10]; go_simp; try rfl)
                · (refine OpH.rd rfl rfl (fun ρ us w6 ho ht hc hl hsrc hW => ?_); have e8 := (ho 8 rfl).trans (show _ = (.pointer (some ⟨g8, 0, none⟩) : Value) from rfl); obtain ⟨z0, z1, y0, y1, y2, y3⟩ := HC18.out w6 hW.1; clear ht ho; simp only [execOp, e8]; go_simp; try rfl)
                · refine OpH.wr rfl (fun Z us w6 ho ht hni hlim hreq hW K hK => ?_)
                  have e101 := (ht 101 (by decide)).trans (show _ = (.agg #[.slice U0 a0 b0, .slice U1 a1 b1] : Value) from rfl)
                  have e102 := (ht 102 (by decide)).trans (show _ = (.agg #[.slice C0 e0 f0, .slice C1 e1 f1] : Value) from rfl)
                  have hcl := EqSlots_c (w := w6) (HU.out.u0.all hW.1) (HU.out.u1.all hW.1) (HU.out.y0.all hW.1) (HU.out.y1.all hW.1)
                  rw [decide_eq_true (by rfl)] at hcl
                  refine step_call rfl 39 #[.tmp 101, .tmp 102] #[62, 62] rfl Try.func39 (by kernel_rfl) (by kernel_rfl) #[.agg #[.slice U0 a0 b0, .slice U1 a1 b1], .agg #[.slice C0 e0 f0, .slice C1 e1 f1]] (by simp [e101, e102]) (hcl) ?_
                  rintro e w7 ⟨rfl, hb7⟩
                  exact ⟨_, rfl, hK _ _ (hW.snoc hb7 (fun j v h => h) (⟨fun _ => rfl, fun h => absurd h (by decide)⟩))⟩
                · (refine OpH.rd rfl rfl (fun ρ us w6 ho ht hc hl hsrc hW => ?_); have e103 := (ht 103 (by decide)).trans (show _ = ((us.lookup 2).getD undef : Value) from rfl); rw [(hW.at_ (hsrc 2 (by exact (List.mem_singleton.2 rfl : (2 : Nat) ∈ [2])))).1 rfl] at e103; clear ht ho; simp only [execOp, e103]; go_simp; try rfl)
                · (refine OpH.rd rfl rfl (fun ρ us w6 ho ht hc hl hsrc hW => ?_); have e104 := (ht 104 (by decide)).trans (show _ = (.bool false : Value) from rfl); clear ht ho; simp only [execOp, e104]; go_simp; try rfl)
                · (refine OpH.rdg rfl 4 105 false rfl rfl (by decide) (fun _ _ _ => rfl) (fun ρ us w6 ho ht hc hl hsrc hW => ?_); have e8 := (ho 8 rfl).trans (show _ = (.pointer (some ⟨g8, 0, none⟩) : Value) from rfl); obtain ⟨z0, z1, y0, y1, y2, y3⟩ := HC18.out w6 hW.1; clear ht ho; simp only [execOp, e8]; go_simp; try rfl)
                · refine OpH.wr rfl (fun Z us w6 ho ht hni hlim hreq hW K hK => ?_)
                  have e106 := (ht 106 (by decide)).trans (show _ = (.agg #[.slice C0 e0 f0, .slice C1 e1 f1] : Value) from rfl)
                  have hcl := refSpread_c (w := w6) HYOK.out (HU.out.y0.all hW.1) (HU.out.y1.all hW.1)
                  rw [HSPR.out] at hcl
                  have eg := (ht 105 (by decide)).trans (show _ = (.bool false : Value) from rfl)
                  refine step_callw (GuardOk.wanted (.at_ (j := 4) (t := 105) (b := false) rfl rfl eg)) 40 #[.tmp 106] #[62] rfl Try.func40 (by kernel_rfl) (by kernel_rfl) #[.agg #[.slice C0 e0 f0, .slice C1 e1 f1]] (by simp [e106]; try rfl) hcl ?_
                  rintro e w7 ⟨rfl, hb7⟩
                  exact ⟨_, rfl, hK _ _ (hW.snoc hb7 (fun j v h => h) (⟨fun h => absurd h (by decide), fun _ => rfl⟩))⟩
                · (refine OpH.rdg rfl 4 105 false rfl rfl (by decide) (fun _ _ _ => rfl) (fun ρ us w6 ho ht hc hl hsrc hW => ?_); have e3 := (ho 3 rfl).trans (show _ = (.pointer (some ⟨g, 0, none⟩) : Value) from rfl); clear ht ho; simp only [execOp, e3]; go_simp; try rfl)
                · (refine OpH.rdg rfl 4 105 false rfl rfl (by decide) (fun _ _ _ => rfl) (fun ρ us w6 ho ht hc hl hsrc hW => ?_); have e108 := (ht 108 (by decide)).trans (show _ = (.pointer (some ⟨g, 0, none⟩) : Value) from rfl); obtain ⟨z0, z1, y0, y1, y2, y3⟩ := HC18.out w6 hW.1; clear ht ho; simp only [execOp, e108]; go_simp; try rfl)
                · (refine OpH.rdg rfl 4 105 false rfl rfl (by decide) (fun _ _ _ => rfl) (fun ρ us w6 ho ht hc hl hsrc hW => ?_); have e109 := (ht 109 (by decide)).trans (show _ = (.int .i64 KZ : Value) from rfl); clear ht ho; simp only [execOp, e109]; go_simp; rw [Go.IntWalk.i64_in _ (by omega)]; rfl)
                · (refine OpH.rdg rfl 4 105 false rfl rfl (by decide) (fun _ _ _ => rfl) (fun ρ us w6 ho ht hc hl hsrc hW => ?_); have e3 := (ho 3 rfl).trans (show _ = (.pointer (some ⟨g, 0, none⟩) : Value) from rfl); clear ht ho; simp only [execOp, e3]; go_simp; try rfl)
                · (refine OpH.rdg rfl 4 105 false rfl rfl (by decide) (fun _ _ _ => rfl) (fun ρ us w6 ho ht hc hl hsrc hW => ?_); have e111 := (ht 111 (by decide)).trans (show _ = (.pointer (some ⟨g, 1, none⟩) : Value) from rfl); obtain ⟨z0, z1, y0, y1, y2, y3⟩ := HC18.out w6 hW.1; clear ht ho; simp only [execOp, e111]; go_simp; try rfl)
                · (refine OpH.rdg rfl 4 105 false rfl rfl (by decide) (fun _ _ _ => rfl) (fun ρ us w6 ho ht hc hl hsrc hW => ?_); have e110 := (ht 110 (by decide)).trans (show _ = (.int .i64 (1 + KZ) : Value) from rfl); have e112 := (ht 112 (by decide)).trans (show _ = (.int .i64 MZ : Value) from rfl); clear ht ho; simp only [execOp, e110, e112]; go_simp; rw [Go.IntWalk.i64_in _ (by omega)]; rfl)
                · (refine OpH.rdg rfl 4 105 false rfl rfl (by decide) (fun _ _ _ => rfl) (fun ρ us w6 ho ht hc hl hsrc hW => ?_); have e107 := (ht 107 (by decide)).trans (show _ = ((us.lookup 6).getD undef : Value) from rfl); have e113 := (ht 113 (by decide)).trans (show _ = (.int .i64 (1 + KZ + MZ) : Value) from rfl); rw [(hW.at_ (hsrc 6 (by exact (List.mem_singleton.2 rfl : (6 : Nat) ∈ [6])))).2 rfl] at e107; clear ht ho; simp only [execOp, e107, e113]; go_simp; simp [show ¬ (1 + KZ + MZ < SPR) by omega]; rfl)
                · (refine OpH.rd rfl rfl (fun ρ us w6 ho ht hc hl hsrc hW => ?_); have e105 := (ht 105 (by decide)).trans (show _ = (.bool false : Value) from rfl); have e114 := (ht 114 (by decide)).trans (show _ = (.bool false : Value) from rfl); clear ht ho; simp only [execOp, e105, e114]; go_simp; try rfl)
                -- TSAF
                · intro us w9 hmem hW
                  simp only [putAll, List.map_cons, List.map_nil, List.foldl_cons, List.foldl_nil, Act.put, List.setIfInBounds_toArray, List.set_cons_succ, List.set_cons_zero]
                  generalize hsv : slotAt _ _ us = sv
                  have hq : sv 115 = .bool false := by rw [← hsv]; rfl
                  rw [hq]
                  have HBi := Lib.hid (HBi.out.trans (hW.1.mono HBi.out.size))
                  clear hsv hq hmem hW
                  clear HC18 HU HQi
                  have HBn := Lib.hid (HBr.out.trans (HBi.out.mono hWr))
                  have HQn := Lib.hid (HQr.out.all HBi.out)
                  go_wp2
                  exact ⟨⟨j + 1, by omega, by omega, by simp [Int.natCast_add], HBn, HQn⟩, by simp [intOf]; omega⟩
          · obtain rfl : n = 5 := by omega
            go_wp2_with fail
            refine wakes18_c.mono ?_
            rintro e wz ⟨rfl, hbz⟩
            have HBz := Lib.hid (HAL.out _ (HBr.out.trans (hbz.mono hWr))); clear hbz
            go_wp2
            go_ret
            exact ⟨by trivial, HBz.out⟩
end Go.Proofs.Ytfccghfcilccfaa
