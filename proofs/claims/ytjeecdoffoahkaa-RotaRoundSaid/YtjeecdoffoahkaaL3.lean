/- How silolaw15's asks read; no list is longer than the reach. Printed by gen_l3.py. -/
import Derived.Test.YtjeecdoffoahkaaL2
namespace Go.Proofs.Ytjeecdoffoahkaa
open Go.RowKit Go.ChangeShapes Go.WideShapes Go.Deep Go.Silo

set_option maxRecDepth 100000 in
theorem readsB_shape : ReadsB Try.prog shapeE 23 (fun _ => True) := by
  intro H enc w fuel cs x h hfz hw
  obtain ⟨xs, n, _, rfl, hl, hlen, hf⟩ := DataW.trod_struct Try.underlying23 h
  have hc : Try.prog.cellsOf 23 = 3 := by kernel_rfl
  rw [hc] at hl
  have hs0 : Try.prog.cellsOf 3 = 1 := by kernel_rfl
  match cs, hl with
  | [c0, c1, c2], _ =>
  match xs, hlen with
  | [y0, y1, y2], _ =>
  have h0 : DataW.trod enc Try.prog w 0 (fun _ => true) true n 3 (([c0, c1, c2].drop 0).take (Try.prog.cellsOf 3)) = some y0 := hf 0 _ rfl
  rw [hs0] at h0
  have h1 : DataW.trod enc Try.prog w 0 (fun _ => true) true n 3 (([c0, c1, c2].drop 1).take (Try.prog.cellsOf 3)) = some y1 := hf 1 _ rfl
  rw [hs0] at h1
  have h2 : DataW.trod enc Try.prog w 0 (fun _ => true) true n 3 (([c0, c1, c2].drop 2).take (Try.prog.cellsOf 3)) = some y2 := hf 2 _ rfl
  rw [hs0] at h2
  have hz : ∀ y ∈ [y0, y1, y2], w.noneFrozen y.2 := fun y hy b o hm => hfz b o (List.mem_flatMap.2 ⟨y, hy, hm⟩)
  simp only [DataW.weights, Try.underlying23] at hw
  obtain ⟨a0, e0, i0⟩ := reads_int Try.underlying3 H enc w n _ _ h0 (hz _ (by simp))
  obtain ⟨a1, e1, i1⟩ := reads_int Try.underlying3 H enc w n _ _ h1 (hz _ (by simp))
  obtain ⟨a2, e2, i2⟩ := reads_int Try.underlying3 H enc w n _ _ h2 (hz _ (by simp))
  simp at e0 e1 e2
  subst e0 e1 e2
  exact ⟨⟨a0, a1, a2⟩, ⟨rfl, i0, i1, i2⟩, trivial⟩
theorem readsB_shapes : ReadsB Try.prog (slE false 23 shapeE) 59 (fun xs => xs.length * 24 ≤ reachBytes ∧ ∀ y ∈ xs, True) := reads_sliceB Try.underlying59 (by kernel_rfl) (by decide) 24 (by kernel_rfl) readsB_shape
theorem readsB_places : ReadsB Try.prog (slE false 112 slotE) 75 (fun xs => xs.length * 16 ≤ reachBytes ∧ ∀ y ∈ xs, True) := reads_sliceB Try.underlying75 (by kernel_rfl) (by decide) 16 (by kernel_rfl) reads_slot.any
def StripeB (x : Stripe) : Prop := x.place.length * 16 ≤ reachBytes
def NeedB (x : Need) : Prop := x.index.length * 8 ≤ reachBytes ∧ x.to.length * 16 ≤ reachBytes
set_option maxRecDepth 100000 in
theorem readsB_stripe : ReadsB Try.prog (stripeE false) 97 StripeB := by
  intro H enc w fuel cs x h hfz hw
  obtain ⟨xs, n, _, rfl, hl, hlen, hf⟩ := DataW.trod_struct Try.underlying97 h
  have hc : Try.prog.cellsOf 97 = 4 := by kernel_rfl
  rw [hc] at hl
  have hs0 : Try.prog.cellsOf 3 = 1 := by kernel_rfl
  have hs1 : Try.prog.cellsOf 75 = 1 := by kernel_rfl
  match cs, hl with
  | [c0, c1, c2, c3], _ =>
  match xs, hlen with
  | [y0, y1, y2, y3], _ =>
  have h0 : DataW.trod enc Try.prog w 0 (fun _ => true) true n 3 (([c0, c1, c2, c3].drop 0).take (Try.prog.cellsOf 3)) = some y0 := hf 0 _ rfl
  rw [hs0] at h0
  have h1 : DataW.trod enc Try.prog w 0 (fun _ => true) true n 3 (([c0, c1, c2, c3].drop 1).take (Try.prog.cellsOf 3)) = some y1 := hf 1 _ rfl
  rw [hs0] at h1
  have h2 : DataW.trod enc Try.prog w 0 (fun _ => true) true n 3 (([c0, c1, c2, c3].drop 2).take (Try.prog.cellsOf 3)) = some y2 := hf 2 _ rfl
  rw [hs0] at h2
  have h3 : DataW.trod enc Try.prog w 0 (fun _ => true) true n 75 (([c0, c1, c2, c3].drop 3).take (Try.prog.cellsOf 75)) = some y3 := hf 3 _ rfl
  rw [hs1] at h3
  have hz : ∀ y ∈ [y0, y1, y2, y3], w.noneFrozen y.2 := fun y hy b o hm => hfz b o (List.mem_flatMap.2 ⟨y, hy, hm⟩)
  simp only [DataW.weights, Try.underlying97] at hw
  obtain ⟨a0, e0, i0⟩ := reads_int Try.underlying3 H enc w n _ _ h0 (hz _ (by simp))
  obtain ⟨a1, e1, i1⟩ := reads_int Try.underlying3 H enc w n _ _ h1 (hz _ (by simp))
  obtain ⟨a2, e2, i2⟩ := reads_int Try.underlying3 H enc w n _ _ h2 (hz _ (by simp))
  obtain ⟨a3, ⟨A3, n3, k3, e3, i3⟩, j3⟩ := readsB_places H enc w n _ _ h3 (hz _ (by simp)) (fun k hk => hw k (DataW.weights_mem_each (j := 3) (t := 75) (d := y3.1) rfl rfl k hk))
  simp at e0 e1 e2 e3
  subst e0 e1 e2 e3
  exact ⟨⟨a0, a1, a2, a3⟩, ⟨A3, n3, k3, rfl, ⟨i0, i1, i2⟩, i3⟩, j3.1⟩
theorem readsB_stripes : ReadsB Try.prog (slE false 97 (stripeE false)) 24 (fun xs => xs.length * 48 ≤ reachBytes ∧ ∀ y ∈ xs, StripeB y) := reads_sliceB Try.underlying24 (by kernel_rfl) (by decide) 48 (by kernel_rfl) readsB_stripe
set_option maxRecDepth 100000 in
theorem readsB_need : ReadsB Try.prog (needE false) 88 NeedB := by
  intro H enc w fuel cs x h hfz hw
  obtain ⟨xs, n, _, rfl, hl, hlen, hf⟩ := DataW.trod_struct Try.underlying88 h
  have hc : Try.prog.cellsOf 88 = 3 := by kernel_rfl
  rw [hc] at hl
  have hs0 : Try.prog.cellsOf 3 = 1 := by kernel_rfl
  have hs1 : Try.prog.cellsOf 52 = 1 := by kernel_rfl
  have hs2 : Try.prog.cellsOf 75 = 1 := by kernel_rfl
  match cs, hl with
  | [c0, c1, c2], _ =>
  match xs, hlen with
  | [y0, y1, y2], _ =>
  have h0 : DataW.trod enc Try.prog w 0 (fun _ => true) true n 3 (([c0, c1, c2].drop 0).take (Try.prog.cellsOf 3)) = some y0 := hf 0 _ rfl
  rw [hs0] at h0
  have h1 : DataW.trod enc Try.prog w 0 (fun _ => true) true n 52 (([c0, c1, c2].drop 1).take (Try.prog.cellsOf 52)) = some y1 := hf 1 _ rfl
  rw [hs1] at h1
  have h2 : DataW.trod enc Try.prog w 0 (fun _ => true) true n 75 (([c0, c1, c2].drop 2).take (Try.prog.cellsOf 75)) = some y2 := hf 2 _ rfl
  rw [hs2] at h2
  have hz : ∀ y ∈ [y0, y1, y2], w.noneFrozen y.2 := fun y hy b o hm => hfz b o (List.mem_flatMap.2 ⟨y, hy, hm⟩)
  simp only [DataW.weights, Try.underlying88] at hw
  obtain ⟨a0, e0, i0⟩ := reads_int Try.underlying3 H enc w n _ _ h0 (hz _ (by simp))
  obtain ⟨a1, ⟨A1, n1, k1, e1, i1⟩, j1⟩ := readsB_ints H enc w n _ _ h1 (hz _ (by simp)) (fun k hk => hw k (DataW.weights_mem_each (j := 1) (t := 52) (d := y1.1) rfl rfl k hk))
  obtain ⟨a2, ⟨A2, n2, k2, e2, i2⟩, j2⟩ := readsB_places H enc w n _ _ h2 (hz _ (by simp)) (fun k hk => hw k (DataW.weights_mem_each (j := 2) (t := 75) (d := y2.1) rfl rfl k hk))
  simp at e0 e1 e2
  subst e0 e1 e2
  exact ⟨⟨a0, a1, a2⟩, ⟨A1, n1, k1, A2, n2, k2, rfl, i0, i1, i2⟩, ⟨j1.1, j2.1⟩⟩
theorem readsB_needs : ReadsB Try.prog (slE false 88 (needE false)) 80 (fun xs => xs.length * 56 ≤ reachBytes ∧ ∀ y ∈ xs, NeedB y) := reads_sliceB Try.underlying80 (by kernel_rfl) (by decide) 56 (by kernel_rfl) readsB_need
/-- An ask: shapes, stripes, slots, which pieces are good, needs. -/
structure AskP where
  s : List Shape
  x : List Stripe
  y : SlotsD
  g : List Bool
  n : List Need
def AskB (p : AskP) : Prop := (p.s.length * 24 ≤ reachBytes ∧ ∀ y ∈ p.s, True) ∧ (p.x.length * 48 ≤ reachBytes ∧ ∀ y ∈ p.x, StripeB y) ∧ SlotsB p.y ∧ (p.g.length * 1 ≤ reachBytes ∧ ∀ y ∈ p.g, True) ∧ (p.n.length * 56 ≤ reachBytes ∧ ∀ y ∈ p.n, NeedB y)
/-- What an ask's cells are. -/
structure AskR (w : World) (S : Nat → Prop) (p : AskP) (As : Option Addr) (ns cs : Nat) (Ax : Option Addr) (nx cx : Nat) (A0 : Option Addr) (n0 c0 : Nat) (A1 : Option Addr) (n1 c1 : Nat) (Ag : Option Addr) (ng cg : Nat) (An : Option Addr) (nn cn : Nat) : Prop where
  s : Sl false 23 shapeE w S As ns cs p.s
  x : Sl false 97 (stripeE false) w S Ax nx cx p.x
  y0 : Sl false 4 boolE w S A0 n0 c0 p.y.live
  y1 : Sl false 52 (slE false 3 intE) w S A1 n1 c1 p.y.free
  g : Sl false 4 boolE w S Ag ng cg p.g
  n : Sl false 88 (needE false) w S An nn cn p.n
theorem AskR.all {w w' : World} {S : Nat → Prop} {p : AskP} {As Ax A0 A1 Ag An : Option Addr} {ns cs nx cx n0 c0 n1 c1 ng cg nn cn : Nat} (h : AskR w S p As ns cs Ax nx cx A0 n0 c0 A1 n1 c1 Ag ng cg An nn cn) (hb : Below w.heap.size w w') : AskR w' S p As ns cs Ax nx cx A0 n0 c0 A1 n1 c1 Ag ng cg An nn cn :=
  ⟨h.s.all hb, h.x.all hb, h.y0.all hb, h.y1.all hb, h.g.all hb, h.n.all hb⟩
set_option maxRecDepth 100000 in
theorem open_ask {H : Type} {enc : TypeId × Value → H} {w : World} {v : Value} {d : DataW H} {p : List MemPlace} {r : Reach} {b0 : Nat} (hv : Value.okWide Try.prog w r b0 82 v) (h : DataW.Trod enc Try.prog w 0 (fun _ => true) true 82 v d p) (hfz : w.noneFrozen p)
    (hw : ∀ k ∈ d.weights Try.prog 82, k ≤ reachBytes) :
    ∃ As ns cs Ax nx cx A0 n0 c0 A1 n1 c1 Ag ng cg An nn cn, ∃ q : AskP, v = .agg #[.slice As ns cs, .slice Ax nx cx, .slice A0 n0 c0, .slice A1 n1 c1, .slice Ag ng cg, .slice An nn cn] ∧ AskR w (fun b => b < w.heap.size) q As ns cs Ax nx cx A0 n0 c0 A1 n1 c1 Ag ng cg An nn cn ∧ AskB q := by
  obtain ⟨cs, rfl, hsz⟩ := okWide_struct Try.underlying82 hv
  obtain ⟨fuel, hf0⟩ := h
  have hcells : (Value.agg cs).cells.toList = cs.toList := rfl
  rw [hcells] at hf0
  obtain ⟨xs, n, _, e, hl, hlen, hf⟩ := DataW.trod_struct Try.underlying82 hf0
  injection e with e e'
  subst e e'
  have hc : Try.prog.cellsOf 82 = 6 := by kernel_rfl
  have hs0 : Try.prog.cellsOf 59 = 1 := by kernel_rfl
  have hs1 : Try.prog.cellsOf 24 = 1 := by kernel_rfl
  have hs2 : Try.prog.cellsOf 62 = 2 := by kernel_rfl
  have hs3 : Try.prog.cellsOf 30 = 1 := by kernel_rfl
  have hs4 : Try.prog.cellsOf 80 = 1 := by kernel_rfl
  obtain ⟨cs⟩ := cs
  rw [hc] at hl
  match cs, hl with
  | [v0, v1, v2, v3, v4, v5], _ =>
  match xs, hlen with
  | [y0, y1, y2, y3, y4], _ =>
  have h0 : DataW.trod enc Try.prog w 0 (fun _ => true) true n 59 (([v0, v1, v2, v3, v4, v5].drop 0).take (Try.prog.cellsOf 59)) = some y0 := hf 0 _ rfl
  rw [hs0] at h0
  have h1 : DataW.trod enc Try.prog w 0 (fun _ => true) true n 24 (([v0, v1, v2, v3, v4, v5].drop 1).take (Try.prog.cellsOf 24)) = some y1 := hf 1 _ rfl
  rw [hs1] at h1
  have h2 : DataW.trod enc Try.prog w 0 (fun _ => true) true n 62 (([v0, v1, v2, v3, v4, v5].drop 2).take (Try.prog.cellsOf 62)) = some y2 := hf 2 _ rfl
  rw [hs2] at h2
  have h3 : DataW.trod enc Try.prog w 0 (fun _ => true) true n 30 (([v0, v1, v2, v3, v4, v5].drop 4).take (Try.prog.cellsOf 30)) = some y3 := hf 3 _ rfl
  rw [hs3] at h3
  have h4 : DataW.trod enc Try.prog w 0 (fun _ => true) true n 80 (([v0, v1, v2, v3, v4, v5].drop 5).take (Try.prog.cellsOf 80)) = some y4 := hf 4 _ rfl
  rw [hs4] at h4
  have hz : ∀ y ∈ [y0, y1, y2, y3, y4], w.noneFrozen y.2 := fun y hy b o hm => hfz b o (List.mem_flatMap.2 ⟨y, hy, hm⟩)
  simp only [DataW.weights, Try.underlying82] at hw
  obtain ⟨a0, ⟨A0, n0, k0, e0, i0⟩, j0⟩ := readsB_shapes H enc w n _ _ h0 (hz _ (by simp)) (fun k hk => hw k (DataW.weights_mem_each (j := 0) (t := 59) (d := y0.1) rfl rfl k hk))
  obtain ⟨a1, ⟨A1, n1, k1, e1, i1⟩, j1⟩ := readsB_stripes H enc w n _ _ h1 (hz _ (by simp)) (fun k hk => hw k (DataW.weights_mem_each (j := 1) (t := 24) (d := y1.1) rfl rfl k hk))
  obtain ⟨a2, ⟨A2, n2, k2, A2', n2', k2', e2, _, i2, i2'⟩, j2⟩ := readsB_slots H enc w n _ _ h2 (hz _ (by simp)) (fun k hk => hw k (DataW.weights_mem_each (j := 2) (t := 62) (d := y2.1) rfl rfl k hk))
  obtain ⟨a3, ⟨A3, n3, k3, e3, i3⟩, j3⟩ := readsB_bools H enc w n _ _ h3 (hz _ (by simp)) (fun k hk => hw k (DataW.weights_mem_each (j := 3) (t := 30) (d := y3.1) rfl rfl k hk))
  obtain ⟨a4, ⟨A4, n4, k4, e4, i4⟩, j4⟩ := readsB_needs H enc w n _ _ h4 (hz _ (by simp)) (fun k hk => hw k (DataW.weights_mem_each (j := 4) (t := 80) (d := y4.1) rfl rfl k hk))
  simp at e0 e1 e2 e3 e4
  obtain ⟨e2, e2'⟩ := e2
  subst e0 e1 e2 e2' e3 e4
  exact ⟨_, _, _, _, _, _, _, _, _, _, _, _, _, _, _, _, _, _, ⟨a0, a1, a2, a3, a4⟩, rfl, ⟨i0, i1, i2, i2', i3, i4⟩, j0, j1, j2, j3, j4⟩
end Go.Proofs.Ytjeecdoffoahkaa
