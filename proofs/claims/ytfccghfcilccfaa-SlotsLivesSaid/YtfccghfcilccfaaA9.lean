/- silolaw11.SlotsExact answers true. -/
import Derived.Test.YtfccghfcilccfaaA8
import Derived.Test.YtfccghfcilccfaaA1
import Derived.Test.YtfccghfcilccfaaT9
import Derived.Test.YtfccghfcilccfaaH1
import Derived.Test.YtfccghfcilccfaaB5
namespace Go.Proofs.Ytfccghfcilccfaa
open Go.RowKit Go.Silo

/-- The worlds between the steps of 'y, ok := step(x, p.L[i])'. -/
inductive WdStep (V : World) (base bx : Nat) : List (Nat × Value) → World → Prop
  | n0 {w : World} : Below V.heap.size V w → WdStep V base bx [] w
  | nb {w : World} {g : Nat} : Below V.heap.size V w → V.heap.size ≤ g → w.heap[g]? = some (.cells #[.slice none 0 0, .slice none 0 0] 62 (0, 0)) → WdStep V base bx [(10, .pointer (some ⟨g, 0, none⟩))] w
  | nc {w : World} {A A' : Option Addr} {n c n' c' : Nat} {y : SlotsD} : Below V.heap.size V w → SmallX y → Sl true 4 boolE w (fun b => (base ≤ b ∧ b ≠ bx) ∧ b < w.heap.size) A n c y.live → Sl true 52 (slE true 3 intE) w (fun b => (base ≤ b ∧ b ≠ bx) ∧ b < w.heap.size) A' n' c' y.free →
      WdStep V base bx [(6, .tuple #[.agg #[.slice A n c, .slice A' n' c'], .bool true])] w
  | both {w : World} {A A' : Option Addr} {n c n' c' g : Nat} {y : SlotsD} {us : List (Nat × Value)} : Below V.heap.size V w → V.heap.size ≤ g → w.heap[g]? = some (.cells #[.slice none 0 0, .slice none 0 0] 62 (0, 0)) → SmallX y →
      Sl true 4 boolE w (fun b => (base ≤ b ∧ b ≠ bx) ∧ b ≠ g) A n c y.live → Sl true 52 (slE true 3 intE) w (fun b => (base ≤ b ∧ b ≠ bx) ∧ b ≠ g) A' n' c' y.free →
      (us = [(6, .tuple #[.agg #[.slice A n c, .slice A' n' c'], .bool true]), (10, .pointer (some ⟨g, 0, none⟩))] ∨ us = [(10, .pointer (some ⟨g, 0, none⟩)), (6, .tuple #[.agg #[.slice A n c, .slice A' n' c'], .bool true])]) → WdStep V base bx us w
  | done {w : World} {A A' : Option Addr} {n c n' c' g : Nat} {y : SlotsD} {us : List (Nat × Value)} {x : Value} : Below V.heap.size V w → V.heap.size ≤ g → w.heap[g]? = some (.cells #[.slice A n c, .slice A' n' c'] 62 (0, 0)) → SmallX y →
      Sl true 4 boolE w (fun b => (base ≤ b ∧ b ≠ bx) ∧ b ≠ g) A n c y.live → Sl true 52 (slE true 3 intE) w (fun b => (base ≤ b ∧ b ≠ bx) ∧ b ≠ g) A' n' c' y.free →
      (us = [(6, .tuple #[.agg #[.slice A n c, .slice A' n' c'], .bool true]), (10, .pointer (some ⟨g, 0, none⟩)), (11, x)] ∨ us = [(10, .pointer (some ⟨g, 0, none⟩)), (6, .tuple #[.agg #[.slice A n c, .slice A' n' c'], .bool true]), (11, x)]) → WdStep V base bx us w
theorem WdStep.tup {V w : World} {base bx : Nat} {us : List (Nat × Value)} (h : WdStep V base bx us w) (h5 : 6 ∈ us.map Prod.fst) : ∃ A n c A' n' c', us.lookup 6 = some (.tuple #[.agg #[.slice A n c, .slice A' n' c'], .bool true]) := by
  cases h with
  | n0 _ => simp at h5
  | nb _ _ _ => simp at h5
  | nc _ _ _ _ => exact ⟨_, _, _, _, _, _, rfl⟩
  | both _ _ _ _ _ _ h => rcases h with rfl | rfl <;> exact ⟨_, _, _, _, _, _, rfl⟩
  | done _ _ _ _ _ _ h => rcases h with rfl | rfl <;> exact ⟨_, _, _, _, _, _, rfl⟩
theorem WdStep.below {V w : World} {base bx : Nat} {us : List (Nat × Value)} (h : WdStep V base bx us w) : Below V.heap.size V w := by cases h <;> assumption

/-- At the loop's head: the slots that were come to, and the two boxes. -/
structure XR (w : World) (va : List Value) (bx : Nat) (y : SlotsD) (B0 : Option Addr) (m0 k0 : Nat) (B1 : Option Addr) (m1 k1 : Nat) (V : World) : Prop where
  sm : SmallX y
  y0 : Sl true 4 boolE V (fun b => w.heap.size ≤ b ∧ b ≠ bx) B0 m0 k0 y.live
  y1 : Sl true 52 (slE true 3 intE) V (fun b => w.heap.size ≤ b ∧ b ≠ bx) B1 m1 k1 y.free
  bp : V.heap[w.heap.size]? = some (.cells va.toArray 112 (0, 0))
  bb : V.heap[bx]? = some (.cells #[.slice B0 m0 k0, .slice B1 m1 k1] 62 (0, 0))
  below : Below w.heap.size w V
  lo : w.heap.size < bx
section
variable {w V V' : World} {va : List Value} {bx : Nat} {y y' : SlotsD} {B0 B1 C0 C1 : Option Addr} {m0 k0 m1 k1 p0 q0 p1 q1 : Nat}
theorem XR.hi (h : XR w va bx y B0 m0 k0 B1 m1 k1 V) : bx < V.heap.size := (Array.getElem?_eq_some_iff.1 h.bb).1
theorem XR.all (h : XR w va bx y B0 m0 k0 B1 m1 k1 V) (hb : Below V.heap.size V V') : XR w va bx y B0 m0 k0 B1 m1 k1 V' := by
  have h1 := h.hi
  have h2 := h.lo
  exact ⟨h.sm, h.y0.all hb, h.y1.all hb, (hb.block _ (by omega)).trans h.bp, (hb.block _ h1).trans h.bb, h.below.trans (hb.mono (by omega)), h2⟩
theorem XR.st (h : XR w va bx y B0 m0 k0 B1 m1 k1 V) (sm : SmallX y') (y0 : Sl true 4 boolE V (fun b => w.heap.size ≤ b ∧ b ≠ bx) C0 p0 q0 y'.live) (y1 : Sl true 52 (slE true 3 intE) V (fun b => w.heap.size ≤ b ∧ b ≠ bx) C1 p1 q1 y'.free) :
    XR w va bx y' C0 p0 q0 C1 p1 q1 ((V.setCell ⟨bx, 0, none⟩ (.slice C0 p0 q0)).setCell ⟨bx, 1, none⟩ (.slice C1 p1 q1)) := by
  have h1 := h.hi
  have h2 := h.lo
  have hk : Keeps (fun b => w.heap.size ≤ b ∧ b ≠ bx) V ((V.setCell ⟨bx, 0, none⟩ (.slice C0 p0 q0)).setCell ⟨bx, 1, none⟩ (.slice C1 p1 q1)) := ((Keeps.refl _ _).setCell (fun h => h.2 rfl) _).setCell (fun h => h.2 rfl) _
  exact ⟨sm, y0.keep hk, y1.keep hk, by rw [Below.heap_setCell _ _ _ _ (by simp; omega), Below.heap_setCell _ _ _ _ (by simp; omega)]; exact h.bp, row_set2 h.bb, (h.below.setCell (by show w.heap.size ≤ bx; omega) _).setCell (by show w.heap.size ≤ bx; omega) _, h2⟩
theorem XR.cb (h : XR w va bx y B0 m0 k0 B1 m1 k1 V) : V.cell? ⟨bx, 0, none⟩ = some (.slice B0 m0 k0) ∧ V.cell? ⟨bx, 1, none⟩ = some (.slice B1 m1 k1) ∧ V.frozen? ⟨bx, 0, none⟩ = false ∧ V.frozen? ⟨bx, 1, none⟩ = false :=
  ⟨cell_of_row V _ 0 _ _ _ h.bb, cell_of_row V _ 1 _ _ _ h.bb, frozen_of_row V _ 0 _ _ h.bb, frozen_of_row V _ 1 _ _ h.bb⟩
end

/-- What the steps of 'num(e) != OK || !EqSlots(w, siloref11.New(d, n))' have yielded. -/
def RN (y : SlotsD) (i : Nat) (v : Value) (W : World) : Prop := (i = 1 → v = .int .i64 0) ∧ (i = 13 → v = .bool true) ∧
  (i = 12 → ∃ A0 n0 c0 A1 n1 c1, v = .agg #[.slice A0 n0 c0, .slice A1 n1 c1] ∧ Sl true 4 boolE W (fun _ => True) A0 n0 c0 y.live ∧ Sl true 52 (slE true 3 intE) W (fun _ => True) A1 n1 c1 y.free)
theorem RN.all {y : SlotsD} {W W' : World} (hb : Below W.heap.size W W') (j : Nat) (v : Value) (h : RN y j v W) : RN y j v W' :=
  ⟨h.1, h.2.1, fun hj => by obtain ⟨A0, n0, c0, A1, n1, c1, e, h0, h1⟩ := h.2.2 hj; exact ⟨A0, n0, c0, A1, n1, c1, e, h0.all hb, h1.all hb⟩⟩

set_option maxRecDepth 100000 in
set_option maxHeartbeats 16000000 in
theorem SlotsExact_c {tg tg1 : Bool} {T : TypeId} {S : Nat → Prop} {w : World} {A0 A1 A2 : Option Addr} {n0 c0 n1 c1 n2 c2 : Nat} {x : SlotsD} {l : List ActD} (hB : ScriptB x l)
    (h0 : Sl tg 4 boolE w S A0 n0 c0 x.live) (h1 : Sl tg 52 (slE tg 3 intE) w S A1 n1 c1 x.free) (h2 : Sl tg T (actDE tg1) w S A2 n2 c2 l) :
    Calls Try.prog 13 #[.agg #[.slice A0 n0 c0, .slice A1 n1 c1, .slice A2 n2 c2]] w (RetV (.bool true) w) := by
  have HL0 := Lib.hid h0.len
  have HL1 := Lib.hid h1.len
  have HL2 := Lib.hid h2.len
  have hcap2 : n2 ≤ 9223372036854775807 := Nat.le_trans h2.le h2.cap
  have HHV := Lib.hid (fun W (hW : Below w.heap.size w W) => Heavy_b hB (h0.all hW) (h1.all hW) (h2.all hW)); clear hB
  have HCP := Lib.hid (fun W (hW : Below w.heap.size w W) (hl : LightS x l) => CopySlots_c (w := W) (h0.all hW) (h1.all hW) (by have := hl.1.1; have := HL0.out; omega) (by have := hl.1.2.1; have := HL1.out; omega) (fun r hr => by have := hl.1.2.2 r hr; omega))
  have HN := Lib.hid (fun W (hW : Below w.heap.size w W) => h2.all hW)
  clear h0 h1 h2
  generalize hva : ([.slice A0 n0 c0, .slice A1 n1 c1, .slice A2 n2 c2] : List Value) = va
  have HVA := Lib.hid hva
  have hp0 : (w.alloc (.cells va.toArray 112)).heap[w.heap.size]? = some (.cells va.toArray 112 (0, 0)) := heap_alloc_new _ _
  subst hva
  go_enter Try.func13, Try.ntmps13
  go_wp2_with fail
  refine (HHV.out _ (by repeat' (first | (with_reducible exact Below.refl _ _) | (with_reducible refine Below.alloc ?_ ?_ _) | (with_reducible refine Below.drew ?_) | (with_reducible refine below_drewN ?_ _) | (with_reducible refine Below.setCell ?_ ?_ _) | (refine via ?_ (by with_reducible assumption) ?_) | (refine via ?_ (below_ext _ _) ?_) | go_size))).mono ?_
  rintro e w1 ⟨v, rfl, hb1, hv⟩
  have HBW : Hid (Below w.heap.size w w1) := Lib.hid (((Below.refl w.heap.size w).alloc (Nat.le_refl _) _).trans (hb1.mono (by simp)))
  have hp1 := (hb1.block w.heap.size (by simp)).trans hp0
  have s1 : w.heap.size < w1.heap.size := by have := hb1.size; simp at this; omega
  clear hp0
  have p0 := (cell_of_row w1 w.heap.size 0 _ _ _ hp1).trans (show _ = some (Value.slice A0 n0 c0) from rfl)
  have p1 := (cell_of_row w1 w.heap.size 1 _ _ _ hp1).trans (show _ = some (Value.slice A1 n1 c1) from rfl)
  have HP1 := Lib.hid hp1; clear hp1 hb1
  have HV := Lib.hid hv; clear hv
  cases v with
  | true =>
    go_wp2
    go_ret
    exact ⟨by trivial, HBW.out⟩
  | false =>
    have HLT := Lib.hid (HV.out rfl)
    go_wp2_with fail
    refine (HCP.out _ HBW.out HLT.out).mono ?_
    clear p0 p1
    rintro e w2 ⟨vs, rfl, ⟨B0, m0, k0, B1, m1, k1, rfl, _, hy0, hy1⟩, hb2⟩
    have hX : XR w [.slice A0 n0 c0, .slice A1 n1 c1, .slice A2 n2 c2] w2.heap.size x B0 m0 k0 B1 m1 k1 (w2.alloc (.cells #[.slice B0 m0 k0, .slice B1 m1 k1] 62)) := by
      have s2 := hb2.size
      have hl := HLT.out.1
      refine ⟨⟨by omega, by omega, fun r hr => by have := hl.2.2 r hr; omega⟩, (hy0.lt_block.frame (Agree.alloc _ _ _) (by simp)).mono (fun b hb _ => ⟨by have : w1.heap.size ≤ b := hb.1; omega, by have := hb.2; omega⟩), (hy1.lt_block.frame (Agree.alloc _ _ _) (by simp)).mono (fun b hb _ => ⟨by have : w1.heap.size ≤ b := hb.1; omega, by have := hb.2; omega⟩),
        by rw [Below.heap_alloc _ _ _ (by omega)]; exact (hb2.block _ s1).trans HP1.out, heap_alloc_new _ _, (HBW.out.trans (hb2.mono (by omega))).alloc (by omega) _, by omega⟩
    have HX0 := Lib.hid hX; clear hX hy0 hy1 hb2
    go_wp2_with fail
    go_loopw [4] (fun i wr => ∃ k : Nat, ∃ y B0 m0 k0 B1 m1 k1, k ≤ n2 ∧ i = .int .i64 k ∧ Hid (XR w [.slice A0 n0 c0, .slice A1 n1 c1, .slice A2 n2 c2] w2.heap.size y B0 m0 k0 B1 m1 k1 wr)) (fun i _ => n2 - (intOf i).toNat)
    case atStart => exact ⟨0, _, _, _, _, _, _, _, Nat.zero_le _, rfl, HX0⟩
    case round =>
      clear HX0
      obtain ⟨k, y, B0, m0, k0, B1, m1, k1, hk, rfl, HX⟩ := hrel
      generalize w2.heap.size = bx at *
      clear HP1 HBW HCP HHV s1
      have p2 := (cell_of_row wr w.heap.size 2 _ _ _ HX.out.bp).trans (show _ = some (Value.slice A2 n2 c2) from rfl)
      have sp : w.heap.size < wr.heap.size := by have := HX.out.hi; have := HX.out.lo; omega
      by_cases hlt : k < n2
      · by_cases h14 : k < 14
        · obtain ⟨b, off, A6, n6, c6, rfl, hS, hbl, q0, q1, q2, q3, q4, q5, e0, e1, e2, e3, e4, e5, e6, _⟩ := (HN.out wr HX.out.below).actD_at hlt
          have hal : (l.getD k default).l.length ≤ 1000000 := by have := HLT.out.2.2 _ (getD_mem (d := default) (show k < l.length by have := HL2.out; omega)); omega
          have HACT : Hid (∀ V, Below w.heap.size w V → b < V.heap.size ∧ V.cell? ⟨b, off + k * 7 + 1, none⟩ = some (.int .i64 (l.getD k default).d) ∧ V.cell? ⟨b, off + k * 7 + 2, none⟩ = some (.int .i64 (l.getD k default).n)) := Lib.hid (fun V hV => by
            obtain ⟨b', off', A6', n6', c6', he, _, hbl', _, _, _, _, _, _, _, r1, r2, _⟩ := (HN.out V hV).actD_at hlt
            injection he with he
            injection he with he1 he2
            subst he1 he2
            exact ⟨hbl', r1, r2⟩)
          generalize l.getD k default = a at *
          have HAL := Lib.hid hal; clear hal
          have HI := Lib.hid (show I64 a.act ∧ I64 a.d ∧ I64 a.n ∧ I64 a.disk ∧ I64 a.pos from ⟨q0, q1, q2, q3, q4⟩); clear q0 q1 q2 q3 q4
          have H6 := Lib.hid q5; clear q5
          have HST : Hid (∀ W, Below wr.heap.size wr W → Calls Try.prog 80 #[.agg #[.slice B0 m0 k0, .slice B1 m1 k1], .agg #[.int .i64 a.act, .int .i64 a.d, .int .i64 a.n, .bool a.is, .int .i64 a.disk, .int .i64 a.pos, .slice A6 n6 c6]] W (RetStep (fun b => (w.heap.size ≤ b ∧ b ≠ bx) ∧ b < wr.heap.size) W)) := Lib.hid (fun W hW =>
            step_c HX.out.sm HAL.out HI.out (HX.out.y0.lt_block.all hW) (HX.out.y1.lt_block.all hW) (H6.out.all hW))
          have CELLS : Hid (∀ us w6, WdStep wr w.heap.size bx us w6 → (w6.cell? ⟨bx, 0, none⟩ = some (.slice B0 m0 k0) ∧ w6.cell? ⟨bx, 1, none⟩ = some (.slice B1 m1 k1)) ∧ w6.cell? ⟨w.heap.size, 2, none⟩ = some (.slice (some ⟨b, off, none⟩) n2 c2) ∧
              (w6.cell? ⟨b, off + k * 7, none⟩ = some (.int .i64 a.act) ∧ w6.cell? ⟨b, off + k * 7 + 1, none⟩ = some (.int .i64 a.d) ∧ w6.cell? ⟨b, off + k * 7 + 2, none⟩ = some (.int .i64 a.n) ∧ w6.cell? ⟨b, off + k * 7 + 3, none⟩ = some (.bool a.is) ∧ w6.cell? ⟨b, off + k * 7 + 4, none⟩ = some (.int .i64 a.disk) ∧ w6.cell? ⟨b, off + k * 7 + 5, none⟩ = some (.int .i64 a.pos) ∧ w6.cell? ⟨b, off + k * 7 + 6, none⟩ = some (.slice A6 n6 c6))) := Lib.hid (by
            intro us w6 hW
            have hB := hW.below
            have hX := HX.out.all hB
            exact ⟨⟨hX.cb.1, hX.cb.2.1⟩, (hB.cell (p := ⟨w.heap.size, 2, none⟩) sp).trans p2, (hB.cell (p := ⟨b, off + k * 7, none⟩) hbl).trans e0, (hB.cell (p := ⟨b, off + k * 7 + 1, none⟩) hbl).trans e1, (hB.cell (p := ⟨b, off + k * 7 + 2, none⟩) hbl).trans e2, (hB.cell (p := ⟨b, off + k * 7 + 3, none⟩) hbl).trans e3, (hB.cell (p := ⟨b, off + k * 7 + 4, none⟩) hbl).trans e4, (hB.cell (p := ⟨b, off + k * 7 + 5, none⟩) hbl).trans e5, (hB.cell (p := ⟨b, off + k * 7 + 6, none⟩) hbl).trans e6⟩)
          clear e0 e1 e2 e3 e4 e5 e6
          go_wp2_with fail
          refine region_free (by kernel_rfl) (by kernel_rfl) 93 rfl [27, 28, 29, 30, 31, 32, 33, 26, 34, 35, 5, 6] [6, 10, 11] [(33, 6), (5, 10)]
            [(27, [], fun _ => .agg #[.slice B0 m0 k0, .slice B1 m1 k1]), (28, [], fun _ => .pointer (some ⟨w.heap.size, 2, none⟩)), (29, [], fun _ => .slice (some ⟨b, off, none⟩) n2 c2), (30, [], fun _ => .int .i64 (k : Int)), (31, [], fun _ => .pointer (some ⟨b, off + k * 7, none⟩)),
              (32, [], fun _ => .agg #[.int .i64 a.act, .int .i64 a.d, .int .i64 a.n, .bool a.is, .int .i64 a.disk, .int .i64 a.pos, .slice A6 n6 c6]), (26, [6], fun l => l.getD 0 undef), (34, [6], fun l => tupleAt 0 (l.getD 0 undef)), (35, [6], fun _ => .bool true), (6, [6], fun _ => .bool true)]
            [[], [], [], [], [], [], [11], [], [], [], [11], [], []] [[], [], [], [], [], [], [], [], [], [], [], [6, 10], []] [[], [], [28], [], [29, 30], [31], [27, 32], [33], [26], [26], [], [5, 34], [35]] (WdStep wr w.heap.size bx) (by kernel_rfl) (.n0 (Below.refl _ _).drew) ⟨?_, ?_, ?_, ?_, ?_, ?_, ?_, ?_, ?_, ?_, ?_, ?_, ?_, trivial⟩ ?_
          · (refine OpH.rd rfl rfl (fun ρ us w6 ho ht hc hl hsrc hW => ?_); have e3 := (ho 3 rfl).trans (show _ = (.pointer (some ⟨bx, 0, none⟩) : Value) from rfl); obtain ⟨⟨y0, y1⟩, y2, y3⟩ := CELLS.out us w6 hW; clear ht ho; simp only [execOp, e3]; go_simp; try rfl)
          · (refine OpH.rd rfl rfl (fun ρ us w6 ho ht hc hl hsrc hW => ?_); have e1 := (ho 1 rfl).trans (show _ = (.pointer (some ⟨w.heap.size, 0, none⟩) : Value) from rfl); clear ht ho; simp only [execOp, e1]; go_simp; try rfl)
          · (refine OpH.rd rfl rfl (fun ρ us w6 ho ht hc hl hsrc hW => ?_); have e28 := (ht 28 (by decide)).trans (show _ = (.pointer (some ⟨w.heap.size, 2, none⟩) : Value) from rfl); obtain ⟨⟨y0, y1⟩, y2, y3⟩ := CELLS.out us w6 hW; clear ht ho; simp only [execOp, e28]; go_simp; try rfl)
          · (refine OpH.rd rfl rfl (fun ρ us w6 ho ht hc hl hsrc hW => ?_); have e4 := (ho 4 rfl).trans (show _ = (.int .i64 (k : Int) : Value) from rfl); clear ht ho; simp only [execOp, e4]; go_simp; try rfl)
          · (refine OpH.rd rfl rfl (fun ρ us w6 ho ht hc hl hsrc hW => ?_); have e29 := (ht 29 (by decide)).trans (show _ = (.slice (some ⟨b, off, none⟩) n2 c2 : Value) from rfl); have e30 := (ht 30 (by decide)).trans (show _ = (.int .i64 (k : Int) : Value) from rfl); clear ht ho; simp only [execOp, e29, e30]; go_simp; try rfl)
          · (refine OpH.rd rfl rfl (fun ρ us w6 ho ht hc hl hsrc hW => ?_); have e31 := (ht 31 (by decide)).trans (show _ = (.pointer (some ⟨b, off + k * 7, none⟩) : Value) from rfl); obtain ⟨⟨y0, y1⟩, y2, e0, e1, e2, e3, e4, e5, e6⟩ := CELLS.out us w6 hW; clear ht ho; simp only [execOp, e31]; go_simp; try rfl)
          · refine OpH.wr rfl (fun A us w6 ho ht hni hlim hreq hW K hK => ?_)
            have e27 := (ht 27 (by decide)).trans (show _ = (.agg #[.slice B0 m0 k0, .slice B1 m1 k1] : Value) from rfl)
            have e32 := (ht 32 (by decide)).trans (show _ = (.agg #[.int .i64 a.act, .int .i64 a.d, .int .i64 a.n, .bool a.is, .int .i64 a.disk, .int .i64 a.pos, .slice A6 n6 c6] : Value) from rfl)
            refine step_call rfl 80 #[.tmp 27, .tmp 32] #[62, 135] rfl Try.func80 (by kernel_rfl) (by kernel_rfl) #[.agg #[.slice B0 m0 k0, .slice B1 m1 k1], .agg #[.int .i64 a.act, .int .i64 a.d, .int .i64 a.n, .bool a.is, .int .i64 a.disk, .int .i64 a.pos, .slice A6 n6 c6]] (by simp [e27, e32]) (HST.out w6 hW.below) ?_
            rintro e w7 ⟨y', A7, n7, c7, A8, n8, c8, rfl, hsm, h7, h8, hb7⟩
            have hbx := HX.out.hi
            refine ⟨_, rfl, hK _ _ ?_⟩
            cases hW with
            | n0 hB => exact .nc (hB.trans (hb7.mono hB.size)) hsm ((h7.lt_block).mono (fun b hb _ => ⟨by rcases hb.1 with h | h; exact h.1; have := hB.size; exact ⟨by omega, by omega⟩, hb.2⟩)) ((h8.lt_block).mono (fun b hb _ => ⟨by rcases hb.1 with h | h; exact h.1; have := hB.size; exact ⟨by omega, by omega⟩, hb.2⟩))
            | @nb _ g hB hg hrow =>
              have hgl := (Array.getElem?_eq_some_iff.1 hrow).1
              have hgb : ∀ b, ((w.heap.size ≤ b ∧ b ≠ bx) ∧ b < wr.heap.size) ∨ w6.heap.size ≤ b → (w.heap.size ≤ b ∧ b ≠ bx) ∧ b ≠ g := fun b hb => by
                have := hB.size
                rcases hb with h | h
                · exact ⟨h.1, by have := h.2; omega⟩
                · exact ⟨⟨by omega, by omega⟩, by omega⟩
              exact .both (hB.trans (hb7.mono hB.size)) hg ((hb7.block _ hgl).trans hrow) hsm (h7.mono (fun b hb _ => hgb b hb)) (h8.mono (fun b hb _ => hgb b hb)) (.inr rfl)
            | nc _ _ _ _ => exact absurd (by simp) hni
            | both _ _ _ _ _ _ h => exact absurd (by rcases h with rfl | rfl <;> simp) hni
            | done _ _ _ _ _ _ h => exact absurd (by rcases h with rfl | rfl <;> simp) hni
          · (refine OpH.rd rfl rfl (fun ρ us w6 ho ht hc hl hsrc hW => ?_); have e33 := (ht 33 (by decide)).trans (show _ = ((us.lookup 6).getD undef : Value) from rfl); clear ht ho; simp only [execOp, e33]; go_simp; try rfl)
          · refine OpH.rd rfl rfl (fun ρ us w6 ho ht hc hl hsrc hW => ?_)
            obtain ⟨A7, n7, c7, A8, n8, c8, hlk⟩ := hW.tup (hsrc 6 (by exact (List.mem_singleton.2 rfl : (6 : Nat) ∈ [6])))
            have e26 := (ht 26 (by decide)).trans (show _ = (us.lookup 6).getD undef from rfl)
            rw [hlk] at e26
            change _ = Result.ok (Next.value (tupleAt 0 ((us.lookup 6).getD undef))) w6
            rw [hlk]
            simp only [execOp, e26]
            go_simp
            try rfl
          · refine OpH.rd rfl rfl (fun ρ us w6 ho ht hc hl hsrc hW => ?_)
            obtain ⟨A7, n7, c7, A8, n8, c8, hlk⟩ := hW.tup (hsrc 6 (by exact (List.mem_singleton.2 rfl : (6 : Nat) ∈ [6])))
            have e26 := (ht 26 (by decide)).trans (show _ = (us.lookup 6).getD undef from rfl)
            rw [hlk] at e26
            change _ = Result.ok (Next.value (.bool true)) w6
            simp only [execOp, e26]
            go_simp
            try rfl
          · refine OpH.wr rfl (fun A us w6 ho ht hni hlim hreq hW K hK => ?_)
            rw [if_pos (by simp [Region.wanted])]
            unfold Oper.wp
            generalize A.eval = ρ at *
            simp only [execOp]
            go_simp
            refine hK _ _ ?_
            cases hW with
            | n0 hB => exact .nb (hB.alloc hB.size _) hB.size (heap_alloc_new _ _)
            | nb _ _ _ => exact absurd (by simp) hni
            | nc hB hsm h7 h8 => exact .both (hB.alloc hB.size _) hB.size (heap_alloc_new _ _) hsm ((h7.frame (Agree.alloc _ _ _) (by simp)).mono (fun b hb _ => ⟨hb.1, by have := hb.2; omega⟩)) ((h8.frame (Agree.alloc _ _ _) (by simp)).mono (fun b hb _ => ⟨hb.1, by have := hb.2; omega⟩)) (.inl rfl)
            | both _ _ _ _ _ _ h => exact absurd (by rcases h with rfl | rfl <;> simp) hni
            | done _ _ _ _ _ _ h => exact absurd (by rcases h with rfl | rfl <;> simp) hni
          · refine OpH.wr rfl (fun A us w6 ho ht hni hlim hreq hW K hK => ?_)
            have q5 := hreq 6 (by decide)
            have q9 := hreq 10 (by decide)
            cases hW with
            | n0 _ => exact absurd q5 (by simp)
            | nb _ _ _ => exact absurd q5 (by simp)
            | nc _ _ _ _ => exact absurd q9 (by simp)
            | done _ _ _ _ _ _ h => exact absurd (by rcases h with rfl | rfl <;> simp) hni
            | @both _ A7 A8 n7 c7 n8 c8 g y' _ hB hg hrow hsm h7 h8 hus =>
              have e5 := (ht 5 (by decide)).trans (show _ = (.pointer (some ⟨g, 0, none⟩) : Value) from by rcases hus with rfl | rfl <;> rfl)
              have e34 := (ht 34 (by decide)).trans (show _ = (.agg #[.slice A7 n7 c7, .slice A8 n8 c8] : Value) from by rcases hus with rfl | rfl <;> rfl)
              have z0 := (cell_of_row w6 g 0 _ _ _ hrow).trans (show _ = some (Value.slice none 0 0) from rfl)
              have z1 := (cell_of_row w6 g 1 _ _ _ hrow).trans (show _ = some (Value.slice none 0 0) from rfl)
              have z2 := frozen_of_row w6 g 0 _ _ hrow
              have z3 := frozen_of_row w6 g 1 _ _ hrow
              have hk1 : Keeps (fun b => (w.heap.size ≤ b ∧ b ≠ bx) ∧ b ≠ g) w6 ((w6.setCell ⟨g, 0, none⟩ (.slice A7 n7 c7)).setCell ⟨g, 1, none⟩ (.slice A8 n8 c8)) := ((Keeps.refl _ _).setCell (fun h => h.2 rfl) _).setCell (fun h => h.2 rfl) _
              have hdone : WdStep wr w.heap.size bx (us ++ [(11, undef)]) ((w6.setCell ⟨g, 0, none⟩ (.slice A7 n7 c7)).setCell ⟨g, 1, none⟩ (.slice A8 n8 c8)) := .done ((hB.setCell hg _).setCell hg _) hg (row_set2 hrow) hsm (h7.keep hk1) (h8.keep hk1) (by rcases hus with rfl | rfl; exact .inl rfl; exact .inr rfl)
              have HD := Lib.hid hdone
              clear hdone hk1 h7 h8 hB hrow ht ho hlim hreq hni q5 q9 hus hsm
              rw [if_pos (by simp [Region.wanted])]
              unfold Oper.wp
              generalize A.eval = ρ at *
              simp only [execOp, e5, e34]
              go_simp
              exact hK undef _ HD.out
          · (refine OpH.rd rfl rfl (fun ρ us w6 ho ht hc hl hsrc hW => ?_); have e35 := (ht 35 (by decide)).trans (show _ = (.bool true : Value) from rfl); clear ht ho; simp only [execOp, e35]; go_simp; try rfl)
          · intro us w7 hmem hW
            have q5 := hmem 6 (by decide)
            have q9 := hmem 10 (by decide)
            have q10 := hmem 11 (by decide)
            cases hW with
            | n0 _ => exact absurd q5 (by simp)
            | nb _ _ _ => exact absurd q5 (by simp)
            | nc _ _ _ _ => exact absurd q9 (by simp)
            | both _ _ _ _ _ _ h => exact absurd q10 (by rcases h with rfl | rfl <;> simp)
            | @done _ A7 A8 n7 c7 n8 c8 g y' _ x10 hB hg hrow hsm h7 h8 hus =>
            simp only [putAll, List.map_cons, List.map_nil, List.foldl_cons, List.foldl_nil, Act.put, List.setIfInBounds_toArray, List.set_cons_succ, List.set_cons_zero]
            generalize hsv : slotAt _ _ us = sv
            have hs5 : sv 5 = .pointer (some ⟨g, 0, none⟩) := by rw [← hsv]; rcases hus with rfl | rfl <;> rfl
            have hs6 : sv 6 = .bool true := by rw [← hsv]; rfl
            rw [hs5, hs6]
            have HX7 := Lib.hid (HX.out.all hB)
            have HX8 := Lib.hid (HX7.out.st hsm (h7.mono (fun b hb _ => hb.1)) (h8.mono (fun b hb _ => hb.1)))
            have g0 := (cell_of_row w7 g 0 _ _ _ hrow).trans (show _ = some (Value.slice A7 n7 c7) from rfl)
            have g1 := (cell_of_row w7 g 1 _ _ _ hrow).trans (show _ = some (Value.slice A8 n8 c8) from rfl)
            obtain ⟨f0, f1, f2, f3⟩ := HX7.out.cb
            clear hsv hs5 hs6 hus h7 h8 hrow hB q5 q9 q10 hmem hsm CELLS HST
            go_upto_region 11 with (fail)
            clear g0 g1 f0 f1 f2 f3 HX7
            generalize ((w7.setCell ⟨bx, 0, none⟩ (.slice A7 n7 c7)).setCell ⟨bx, 1, none⟩ (.slice A8 n8 c8)) = w8 at *
            clear hg
            have p2 := (cell_of_row w8 w.heap.size 2 _ _ _ HX8.out.bp).trans (show _ = some (Value.slice (some ⟨b, off, none⟩) n2 c2) from rfl)
            obtain ⟨zb, d1, d2⟩ := HACT.out w8 HX8.out.below
            have hnew := New_c (w := w8) HI.out.2.1 HI.out.2.2.1
            generalize hR : newR a.d a.n = R at *
            have HR := Lib.hid hR; clear hR
            go_wp2_with fail
            refine hnew.mono ?_
            clear hnew p2 d1 d2 zb
            rintro e w9 ⟨C0, p0, q0, C1, p1, q1, rfl, hy0, hy1, hb9⟩
            have HX10 := Lib.hid ((HX8.out.all hb9).all ((Below.refl _ _).alloc (Nat.le_refl _) (.cells #[.slice C0 p0 q0, .slice C1 p1 q1] 62)))
            have hg := heap_alloc_new w9 (.cells #[.slice C0 p0 q0, .slice C1 p1 q1] 62)
            have HY0 := Lib.hid (hy0.frame (w' := w9.alloc (.cells #[.slice C0 p0 q0, .slice C1 p1 q1] 62)) (Agree.alloc _ _ _) (by simp)); clear hy0
            have HY1 := Lib.hid (hy1.frame (w' := w9.alloc (.cells #[.slice C0 p0 q0, .slice C1 p1 q1] 62)) (Agree.alloc _ _ _) (by simp)); clear hy1
            clear hb9
            go_upto_region 13 with (fail)
            generalize (w9.alloc (.cells #[.slice C0 p0 q0, .slice C1 p1 q1] 62)) = w10 at *
            have HG := Lib.hid hg; clear hg
            clear HX HX8
            have p2 := (cell_of_row w10 w.heap.size 2 _ _ _ HX10.out.bp).trans (show _ = some (Value.slice (some ⟨b, off, none⟩) n2 c2) from rfl)
            obtain ⟨zb, d1, d2⟩ := HACT.out w10 HX10.out.below
            have hbt := Between_c (w := w10) (n := a.d) (l := 1) (m := 12)
            by_cases hd : 1 ≤ a.d ∧ a.d ≤ 12
            · rw [decide_eq_true hd] at hbt
              have HD := Lib.hid hd; clear hd
              go_wp2_with fail
              refine hbt.mono ?_
              clear hbt p2 d1 d2 zb
              rintro e w11 ⟨rfl, hb11⟩
              have HX11 := Lib.hid (HX10.out.all hb11)
              have HB11 := Lib.hid hb11; clear hb11
              have hnt := Num_c (w := w11) (n := a.n) (m := 64)
              by_cases hn : 0 ≤ a.n ∧ a.n ≤ 64
              · rw [decide_eq_true hn] at hnt
                have HNN := Lib.hid hn; clear hn
                go_wp2_with fail
                refine hnt.mono ?_
                clear hnt
                rintro e w12 ⟨rfl, hb12⟩
                have HX12 := Lib.hid (HX11.out.all hb12)
                have HB12 := Lib.hid (HB11.out.trans (hb12.mono HB11.out.size)); clear hb12
                have hnew : ∀ W, Calls Try.prog 35 #[.int .i64 a.d, .int .i64 a.n] W (RetE (slotsDE true) W R.1) ∧ R.2 = 0 := fun W => by
                  obtain ⟨d, hd'⟩ := Int.eq_ofNat_of_zero_le (show 0 ≤ a.d by have := HD.out; omega)
                  obtain ⟨n, hn'⟩ := Int.eq_ofNat_of_zero_le HNN.out.1
                  have h1 := HD.out
                  have h2 := HNN.out
                  rw [← HR.out, hd', hn', newR_ok (d := d) (n := n) (by omega)]
                  exact ⟨refNew_c (by omega) (by omega), rfl⟩
                have hR2 := (hnew w12).2
                obtain ⟨y2, r2⟩ := R
                obtain rfl : r2 = 0 := hR2
                have HNW : Hid (∀ W, Calls Try.prog 35 #[.int .i64 a.d, .int .i64 a.n] W (RetE (slotsDE true) W y2)) := Lib.hid (fun W => (hnew W).1)
                clear hnew HR
                have CELLS : Hid (∀ us W, WdB w12 (RN y2) us W → (W.cell? ⟨w9.heap.size, 0, none⟩ = some (.slice C0 p0 q0) ∧ W.cell? ⟨w9.heap.size, 1, none⟩ = some (.slice C1 p1 q1)) ∧ W.cell? ⟨w.heap.size, 2, none⟩ = some (.slice (some ⟨b, off, none⟩) n2 c2) ∧ W.cell? ⟨b, off + k * 7 + 1, none⟩ = some (.int .i64 a.d)) := Lib.hid (fun us W hW => by
                  have hX := HX12.out.all hW.1
                  have hbb := HB12.out.trans (hW.1.mono HB12.out.size)
                  have hgW := (hbb.block _ (Array.getElem?_eq_some_iff.1 HG.out).1).trans HG.out
                  exact ⟨⟨(cell_of_row W w9.heap.size 0 _ _ _ hgW).trans rfl, (cell_of_row W w9.heap.size 1 _ _ _ hgW).trans rfl⟩, (cell_of_row W w.heap.size 2 _ _ _ hX.bp).trans rfl, (HACT.out W hX.below).2.1⟩)
                go_wp2_with fail
                refine region_free (by kernel_rfl) (by kernel_rfl) 93 rfl [67, 68, 69, 70, 71, 72, 73, 74, 75, 76, 77, 78, 79, 80, 81, 82] [1, 12, 13] [(68, 1), (79, 12), (80, 13)]
                  [(67, [], fun _ => .int .i64 0), (69, [1], fun _ => .bool false), (70, [1], fun _ => .bool false), (71, [], fun _ => .agg #[.slice C0 p0 q0, .slice C1 p1 q1]), (72, [], fun _ => .pointer (some ⟨w.heap.size, 2, none⟩)), (73, [], fun _ => .slice (some ⟨b, off, none⟩) n2 c2), (74, [], fun _ => .int .i64 (k : Int)),
                    (75, [], fun _ => .pointer (some ⟨b, off + k * 7, none⟩)), (76, [], fun _ => .pointer (some ⟨b, off + k * 7 + 1, none⟩)), (77, [], fun _ => .int .i64 a.d), (78, [], fun _ => .int .i64 a.n), (81, [13], fun _ => .bool false), (82, [1, 13], fun _ => .bool false)]
                  [] [[], [], [], [], [], [], [], [], [], [], [], [], [], [12], [], []]
                  [[], [67], [68], [69], [70], [70], [72, 70], [70], [73, 74, 70], [75, 70], [76, 70], [70], [77, 78, 70], [71, 79, 70], [80, 70], [70, 81]] (WdB w12 (RN y2)) (by kernel_rfl) .init
                  ⟨?_, ?_, ?_, ?_, ?_, ?_, ?_, ?_, ?_, ?_, ?_, ?_, ?_, ?_, ?_, ?_, trivial⟩ ?_
                · (refine OpH.rd rfl rfl (fun ρ us w6 ho ht hc hl hsrc hW => ?_); have e9 := (ho 9 rfl).trans (show _ = (.int .i64 0 : Value) from rfl); clear ht ho; simp only [execOp, e9]; go_simp; try rfl)
                · refine OpH.wr rfl (fun A us w6 ho ht hni hlim hreq hW K hK => ?_)
                  have e67 := (ht 67 (by decide)).trans (show _ = (.int .i64 0 : Value) from rfl)
                  have hcl := num_c (w := w6) (e := 0)
                  refine step_call rfl 74 #[.tmp 67] #[39] rfl Try.func74 (by kernel_rfl) (by kernel_rfl) #[.int .i64 0] (by simp [e67]) (hcl) ?_
                  rintro e w7 ⟨rfl, hb7⟩
                  exact ⟨_, rfl, hK _ _ (hW.snoc hb7 (fun j v h => h.all hb7) ⟨fun _ => rfl, (fun h => absurd h (by decide)), (fun h => absurd h (by decide))⟩)⟩
                · (refine OpH.rd rfl rfl (fun ρ us w6 ho ht hc hl hsrc hW => ?_); have e68 := (ht 68 (by decide)).trans (show _ = ((us.lookup 1).getD undef : Value) from rfl); rw [(hW.at_ (hsrc 1 (by exact (List.mem_singleton.2 rfl : (1 : Nat) ∈ [1])))).1 rfl] at e68; clear ht ho; simp only [execOp, e68]; go_simp; try rfl)
                · (refine OpH.rd rfl rfl (fun ρ us w6 ho ht hc hl hsrc hW => ?_); have e69 := (ht 69 (by decide)).trans (show _ = (.bool false : Value) from rfl); clear ht ho; simp only [execOp, e69]; go_simp; try rfl)
                · (refine OpH.rdg rfl 3 70 false rfl rfl (by decide) (fun _ _ _ => rfl) (fun ρ us w6 ho ht hc hl hsrc hW => ?_); have e8 := (ho 8 rfl).trans (show _ = (.pointer (some ⟨w9.heap.size, 0, none⟩) : Value) from rfl); obtain ⟨⟨y0, y1⟩, y3, y4⟩ := CELLS.out us w6 hW; clear ht ho; simp only [execOp, e8]; go_simp; try rfl)
                · (refine OpH.rdg rfl 3 70 false rfl rfl (by decide) (fun _ _ _ => rfl) (fun ρ us w6 ho ht hc hl hsrc hW => ?_); have e1 := (ho 1 rfl).trans (show _ = (.pointer (some ⟨w.heap.size, 0, none⟩) : Value) from rfl); clear ht ho; simp only [execOp, e1]; go_simp; try rfl)
                · (refine OpH.rdg rfl 3 70 false rfl rfl (by decide) (fun _ _ _ => rfl) (fun ρ us w6 ho ht hc hl hsrc hW => ?_); have e72 := (ht 72 (by decide)).trans (show _ = (.pointer (some ⟨w.heap.size, 2, none⟩) : Value) from rfl); obtain ⟨⟨y0, y1⟩, y3, y4⟩ := CELLS.out us w6 hW; clear ht ho; simp only [execOp, e72]; go_simp; try rfl)
                · (refine OpH.rdg rfl 3 70 false rfl rfl (by decide) (fun _ _ _ => rfl) (fun ρ us w6 ho ht hc hl hsrc hW => ?_); have e4 := (ho 4 rfl).trans (show _ = (.int .i64 (k : Int) : Value) from rfl); clear ht ho; simp only [execOp, e4]; go_simp; try rfl)
                · (refine OpH.rdg rfl 3 70 false rfl rfl (by decide) (fun _ _ _ => rfl) (fun ρ us w6 ho ht hc hl hsrc hW => ?_); have e73 := (ht 73 (by decide)).trans (show _ = (.slice (some ⟨b, off, none⟩) n2 c2 : Value) from rfl); have e74 := (ht 74 (by decide)).trans (show _ = (.int .i64 (k : Int) : Value) from rfl); clear ht ho; simp only [execOp, e73, e74]; go_simp; try rfl)
                · (refine OpH.rdg rfl 3 70 false rfl rfl (by decide) (fun _ _ _ => rfl) (fun ρ us w6 ho ht hc hl hsrc hW => ?_); have e75 := (ht 75 (by decide)).trans (show _ = (.pointer (some ⟨b, off + k * 7, none⟩) : Value) from rfl); clear ht ho; simp only [execOp, e75]; go_simp; try rfl)
                · (refine OpH.rdg rfl 3 70 false rfl rfl (by decide) (fun _ _ _ => rfl) (fun ρ us w6 ho ht hc hl hsrc hW => ?_); have e76 := (ht 76 (by decide)).trans (show _ = (.pointer (some ⟨b, off + k * 7 + 1, none⟩) : Value) from rfl); obtain ⟨⟨y0, y1⟩, y3, y4⟩ := CELLS.out us w6 hW; clear ht ho; simp only [execOp, e76]; go_simp; try rfl)
                · (refine OpH.rdg rfl 3 70 false rfl rfl (by decide) (fun _ _ _ => rfl) (fun ρ us w6 ho ht hc hl hsrc hW => ?_); have e7 := (ho 7 rfl).trans (show _ = (.int .i64 a.n : Value) from rfl); clear ht ho; simp only [execOp, e7]; go_simp; try rfl)
                · refine OpH.wr rfl (fun A us w6 ho ht hni hlim hreq hW K hK => ?_)
                  have e70 := (ht 70 (by decide)).trans (show _ = (.bool false : Value) from rfl)
                  have e77 := (ht 77 (by decide)).trans (show _ = (.int .i64 a.d : Value) from rfl)
                  have e78 := (ht 78 (by decide)).trans (show _ = (.int .i64 a.n : Value) from rfl)
                  refine step_callw (GuardOk.wanted (.at_ (j := 3) (t := 70) (b := false) rfl rfl e70)) 35 #[.tmp 77, .tmp 78] #[3, 3] rfl Try.func35 (by kernel_rfl) (by kernel_rfl) #[.int .i64 a.d, .int .i64 a.n] (by simp [e77, e78]) (HNW.out w6) ?_
                  rintro e w7 ⟨vs, rfl, ⟨D0, r0, t0, D1, r1, t1, rfl, _, hd0, hd1⟩, hb7⟩
                  exact ⟨_, rfl, hK _ _ (hW.snoc hb7 (fun j v h => h.all hb7) ⟨(fun h => absurd h (by decide)), (fun h => absurd h (by decide)), fun _ => ⟨_, _, _, _, _, _, rfl, hd0.mono (fun _ _ _ => trivial), hd1.mono (fun _ _ _ => trivial)⟩⟩)⟩
                · refine OpH.wr rfl (fun A us w6 ho ht hni hlim hreq hW K hK => ?_)
                  have e70 := (ht 70 (by decide)).trans (show _ = (.bool false : Value) from rfl)
                  have e71 := (ht 71 (by decide)).trans (show _ = (.agg #[.slice C0 p0 q0, .slice C1 p1 q1] : Value) from rfl)
                  have e79 := (ht 79 (by decide)).trans (show _ = (us.lookup 12).getD undef from rfl)
                  obtain ⟨D0, r0, t0, D1, r1, t1, ev, hd0, hd1⟩ := (hW.at_ (hreq 12 (by decide))).2.2 rfl
                  rw [ev] at e79
                  have hbb := HB12.out.trans (hW.1.mono HB12.out.size)
                  have hcl := EqSlots_c (HY0.out.all hbb) (HY1.out.all hbb) hd0 hd1
                  rw [decide_eq_true (by rfl)] at hcl
                  refine step_callw (GuardOk.wanted (.at_ (j := 3) (t := 70) (b := false) rfl rfl e70)) 39 #[.tmp 71, .tmp 79] #[62, 62] rfl Try.func39 (by kernel_rfl) (by kernel_rfl) #[.agg #[.slice C0 p0 q0, .slice C1 p1 q1], .agg #[.slice D0 r0 t0, .slice D1 r1 t1]] (by simp [e71, e79]) hcl ?_
                  rintro e w7 ⟨rfl, hb7⟩
                  exact ⟨_, rfl, hK _ _ (hW.snoc hb7 (fun j v h => h.all hb7) ⟨(fun h => absurd h (by decide)), fun _ => rfl, (fun h => absurd h (by decide))⟩)⟩
                · (refine OpH.rdg rfl 3 70 false rfl rfl (by decide) (fun _ _ _ => rfl) (fun ρ us w6 ho ht hc hl hsrc hW => ?_); have e80 := (ht 80 (by decide)).trans (show _ = ((us.lookup 13).getD undef : Value) from rfl); rw [(hW.at_ (hsrc 13 (by exact (List.mem_singleton.2 rfl : (13 : Nat) ∈ [13])))).2.1 rfl] at e80; clear ht ho; simp only [execOp, e80]; go_simp; try rfl)
                · (refine OpH.rd rfl rfl (fun ρ us w6 ho ht hc hl hsrc hW => ?_); have e70 := (ht 70 (by decide)).trans (show _ = (.bool false : Value) from rfl); have e81 := (ht 81 (by decide)).trans (show _ = (.bool false : Value) from rfl); clear ht ho; simp only [execOp, e70, e81]; go_simp; try rfl)
                · intro us w13 hmem hW
                  simp only [putAll, List.map_cons, List.map_nil, List.foldl_cons, List.foldl_nil, Act.put, List.setIfInBounds_toArray, List.set_cons_succ, List.set_cons_zero]
                  generalize hsv : slotAt _ _ us = sv
                  have hs82 : sv 82 = .bool false := by rw [← hsv]; rfl
                  have HX13 := Lib.hid (HX12.out.all hW.1)
                  rw [hs82]
                  clear hsv hmem hW hs82
                  go_wp2
                  go_roundw
                  case rel => exact ⟨k + 1, _, _, _, _, _, _, _, by omega, by go_num, HX13⟩
                  case measure => simp [intOf]; omega
              · rw [decide_eq_false hn] at hnt
                have HNN := Lib.hid hn; clear hn
                go_wp2_with fail
                refine hnt.mono ?_
                clear hnt
                rintro e w12 ⟨rfl, hb12⟩
                have HX12 := Lib.hid (HX11.out.all hb12)
                have HB12 := Lib.hid (HB11.out.trans (hb12.mono HB11.out.size)); clear hb12
                have hR1 : R = (⟨[], []⟩, 1) := HR.out.symm.trans (newR_bad (fun h => HNN.out ⟨h.2.2.1, h.2.2.2⟩))
                subst hR1
                go_wp2_with fail
                refine num_c.mono ?_
                rintro e w13 ⟨rfl, hb13⟩
                have HX13 := Lib.hid (HX12.out.all hb13)
                have hbb := HB12.out.trans (hb13.mono HB12.out.size)
                have hg13 := (hbb.block _ (Array.getElem?_eq_some_iff.1 HG.out).1).trans HG.out
                have g0 := (cell_of_row w13 w9.heap.size 0 _ _ _ hg13).trans (show _ = some (Value.slice C0 p0 q0) from rfl)
                have g1 := (cell_of_row w13 w9.heap.size 1 _ _ _ hg13).trans (show _ = some (Value.slice C1 p1 q1) from rfl)
                have hec := EqSlots_c (w := w13) (x := ⟨[], []⟩) (y := ⟨[], []⟩) (tg' := true) (S' := fun _ => True) (A0' := none) (A1' := none) (n0' := 0) (c0' := 0) (n1' := 0) (c1' := 0) (HY0.out.all hbb) (HY1.out.all hbb) (Sl.nil_ (by decide)) (Sl.nil_ (by decide))
                rw [decide_eq_true (rfl : (⟨[], []⟩ : SlotsD) = ⟨[], []⟩)] at hec
                clear hbb hg13 hb13
                go_wp2_with fail
                refine hec.mono ?_
                clear hec g0 g1
                rintro e w14 ⟨rfl, hb14⟩
                have HX14 := Lib.hid (HX13.out.all hb14)
                clear hb14
                go_wp2
                go_roundw
                case rel => exact ⟨k + 1, _, _, _, _, _, _, _, by omega, by go_num, HX14⟩
                case measure => simp [intOf]; omega
            · rw [decide_eq_false hd] at hbt
              have HD := Lib.hid hd; clear hd
              go_wp2_with fail
              refine hbt.mono ?_
              clear hbt p2 d1 d2 zb
              rintro e w12 ⟨rfl, hb12⟩
              have HX12 := Lib.hid (HX10.out.all hb12)
              have HB12 := Lib.hid hb12; clear hb12
              have hR1 : R = (⟨[], []⟩, 1) := HR.out.symm.trans (newR_bad (fun h => HD.out ⟨h.1, h.2.1⟩))
              subst hR1
              go_wp2_with fail
              refine num_c.mono ?_
              rintro e w13 ⟨rfl, hb13⟩
              have HX13 := Lib.hid (HX12.out.all hb13)
              have hbb := HB12.out.trans (hb13.mono HB12.out.size)
              have hg13 := (hbb.block _ (Array.getElem?_eq_some_iff.1 HG.out).1).trans HG.out
              have g0 := (cell_of_row w13 w9.heap.size 0 _ _ _ hg13).trans (show _ = some (Value.slice C0 p0 q0) from rfl)
              have g1 := (cell_of_row w13 w9.heap.size 1 _ _ _ hg13).trans (show _ = some (Value.slice C1 p1 q1) from rfl)
              have hec := EqSlots_c (w := w13) (x := ⟨[], []⟩) (y := ⟨[], []⟩) (tg' := true) (S' := fun _ => True) (A0' := none) (A1' := none) (n0' := 0) (c0' := 0) (n1' := 0) (c1' := 0) (HY0.out.all hbb) (HY1.out.all hbb) (Sl.nil_ (by decide)) (Sl.nil_ (by decide))
              rw [decide_eq_true (rfl : (⟨[], []⟩ : SlotsD) = ⟨[], []⟩)] at hec
              clear hbb hg13 hb13
              go_wp2_with fail
              refine hec.mono ?_
              clear hec g0 g1
              rintro e w14 ⟨rfl, hb14⟩
              have HX14 := Lib.hid (HX13.out.all hb14)
              clear hb14
              go_wp2
              go_roundw
              case rel => exact ⟨k + 1, _, _, _, _, _, _, _, by omega, by go_num, HX14⟩
              case measure => simp [intOf]; omega
        · go_wp2_with fail
          refine wakes_c.mono ?_
          rintro e w3 ⟨rfl, hb3⟩
          have HB3 := Lib.hid (HX.out.below.trans (hb3.mono (Nat.le_of_lt sp))); clear hb3
          go_wp2
          go_ret
          exact ⟨by trivial, HB3.out⟩
      · go_wp2_with fail
        refine wakes_c.mono ?_
        rintro e w3 ⟨rfl, hb3⟩
        have HB3 := Lib.hid (HX.out.below.trans (hb3.mono (Nat.le_of_lt sp))); clear hb3
        go_wp2
        go_ret
        exact ⟨by trivial, HB3.out⟩
end Go.Proofs.Ytfccghfcilccfaa
