/- How silolaw15's asks read; no list is longer than the reach. Printed by gen_l3.py. -/
import Derived.Test.YtjeecdoffoahkaaL2r
namespace Go.Proofs.Ytjeecdoffoahkaa
open Go.RowKit Go.ChangeShapes Go.WideShapes Go.Deep Go.Silo

set_option maxRecDepth 100000 in
theorem readsB_shape : ReadsB Try.prog shapeE 23 (fun _ => True) := by
  intro H enc w fuel cs x h hfz hw
  obtain ⟨xs, n, _, rfl, hl, hlen, hf⟩ := DataW.trod_struct Try.underlying23 h
  have hc : Try.prog.cellsOf 23 = 3 := by kernel_rfl
  rw [hc] at hl
  have hs0 : Try.prog.cellsOf 3 = 1 := by kernel_rfl
  match cs, hl with
  | [c0, c1, c2], _ =>
  match xs, hlen with
  | [y0, y1, y2], _ =>
  have h0 : DataW.trod enc Try.prog w 0 (fun _ => true) true n 3 (([c0, c1, c2].drop 0).take (Try.prog.cellsOf 3)) = some y0 := hf 0 _ rfl
  rw [hs0] at h0
  have h1 : DataW.trod enc Try.prog w 0 (fun _ => true) true n 3 (([c0, c1, c2].drop 1).take (Try.prog.cellsOf 3)) = some y1 := hf 1 _ rfl
  rw [hs0] at h1
  have h2 : DataW.trod enc Try.prog w 0 (fun _ => true) true n 3 (([c0, c1, c2].drop 2).take (Try.prog.cellsOf 3)) = some y2 := hf 2 _ rfl
  rw [hs0] at h2
  have hz : ∀ y ∈ [y0, y1, y2], w.noneFrozen y.2 := fun y hy b o hm => hfz b o (List.mem_flatMap.2 ⟨y, hy, hm⟩)
  simp only [DataW.weights, Try.underlying23] at hw
  obtain ⟨a0, e0, i0⟩ := reads_int Try.underlying3 H enc w n _ _ h0 (hz _ (by simp))
  obtain ⟨a1, e1, i1⟩ := reads_int Try.underlying3 H enc w n _ _ h1 (hz _ (by simp))
  obtain ⟨a2, e2, i2⟩ := reads_int Try.underlying3 H enc w n _ _ h2 (hz _ (by simp))
  simp at e0 e1 e2
  subst e0 e1 e2
  exact ⟨⟨a0, a1, a2⟩, ⟨rfl, i0, i1, i2⟩, trivial⟩
theorem readsB_places : ReadsB Try.prog (slE false 112 slotE) 75 (fun xs => xs.length * 16 ≤ reachBytes ∧ ∀ y ∈ xs, True) := reads_sliceB Try.underlying75 (by kernel_rfl) (by decide) 16 (by kernel_rfl) reads_slot.any
def StripeB (x : Stripe) : Prop := x.place.length * 16 ≤ reachBytes
set_option maxRecDepth 100000 in
theorem readsB_stripe : ReadsB Try.prog (stripeE false) 97 StripeB := by
  intro H enc w fuel cs x h hfz hw
  obtain ⟨xs, n, _, rfl, hl, hlen, hf⟩ := DataW.trod_struct Try.underlying97 h
  have hc : Try.prog.cellsOf 97 = 4 := by kernel_rfl
  rw [hc] at hl
  have hs0 : Try.prog.cellsOf 3 = 1 := by kernel_rfl
  have hs1 : Try.prog.cellsOf 75 = 1 := by kernel_rfl
  match cs, hl with
  | [c0, c1, c2, c3], _ =>
  match xs, hlen with
  | [y0, y1, y2, y3], _ =>
  have h0 : DataW.trod enc Try.prog w 0 (fun _ => true) true n 3 (([c0, c1, c2, c3].drop 0).take (Try.prog.cellsOf 3)) = some y0 := hf 0 _ rfl
  rw [hs0] at h0
  have h1 : DataW.trod enc Try.prog w 0 (fun _ => true) true n 3 (([c0, c1, c2, c3].drop 1).take (Try.prog.cellsOf 3)) = some y1 := hf 1 _ rfl
  rw [hs0] at h1
  have h2 : DataW.trod enc Try.prog w 0 (fun _ => true) true n 3 (([c0, c1, c2, c3].drop 2).take (Try.prog.cellsOf 3)) = some y2 := hf 2 _ rfl
  rw [hs0] at h2
  have h3 : DataW.trod enc Try.prog w 0 (fun _ => true) true n 75 (([c0, c1, c2, c3].drop 3).take (Try.prog.cellsOf 75)) = some y3 := hf 3 _ rfl
  rw [hs1] at h3
  have hz : ∀ y ∈ [y0, y1, y2, y3], w.noneFrozen y.2 := fun y hy b o hm => hfz b o (List.mem_flatMap.2 ⟨y, hy, hm⟩)
  simp only [DataW.weights, Try.underlying97] at hw
  obtain ⟨a0, e0, i0⟩ := reads_int Try.underlying3 H enc w n _ _ h0 (hz _ (by simp))
  obtain ⟨a1, e1, i1⟩ := reads_int Try.underlying3 H enc w n _ _ h1 (hz _ (by simp))
  obtain ⟨a2, e2, i2⟩ := reads_int Try.underlying3 H enc w n _ _ h2 (hz _ (by simp))
  obtain ⟨a3, ⟨A3, n3, k3, e3, i3⟩, j3⟩ := readsB_places H enc w n _ _ h3 (hz _ (by simp)) (fun k hk => hw k (DataW.weights_mem_each (j := 3) (t := 75) (d := y3.1) rfl rfl k hk))
  simp at e0 e1 e2 e3
  subst e0 e1 e2 e3
  exact ⟨⟨a0, a1, a2, a3⟩, ⟨A3, n3, k3, rfl, ⟨i0, i1, i2⟩, i3⟩, j3.1⟩
theorem readsB_stripes : ReadsB Try.prog (slE false 97 (stripeE false)) 24 (fun xs => xs.length * 48 ≤ reachBytes ∧ ∀ y ∈ xs, StripeB y) := reads_sliceB Try.underlying24 (by kernel_rfl) (by decide) 48 (by kernel_rfl) readsB_stripe
/-- An ask: shapes, stripes, slots, which pieces are good, needs. -/
structure AskP where
  s : List Shape
  x : List Stripe
  y : SlotsD
  g : List Bool
  n : List Need
/-- What an ask's cells are. -/
structure AskR (w : World) (S : Nat → Prop) (p : AskP) (As : Option Addr) (ns cs : Nat) (Ax : Option Addr) (nx cx : Nat) (A0 : Option Addr) (n0 c0 : Nat) (A1 : Option Addr) (n1 c1 : Nat) (Ag : Option Addr) (ng cg : Nat) (An : Option Addr) (nn cn : Nat) : Prop where
  s : Sl false 23 shapeE w S As ns cs p.s
  x : Sl false 97 (stripeE false) w S Ax nx cx p.x
  y0 : Sl false 4 boolE w S A0 n0 c0 p.y.live
  y1 : Sl false 52 (slE false 3 intE) w S A1 n1 c1 p.y.free
  g : Sl false 4 boolE w S Ag ng cg p.g
  n : Sl false 88 (needE false) w S An nn cn p.n
theorem AskR.all {w w' : World} {S : Nat → Prop} {p : AskP} {As Ax A0 A1 Ag An : Option Addr} {ns cs nx cx n0 c0 n1 c1 ng cg nn cn : Nat} (h : AskR w S p As ns cs Ax nx cx A0 n0 c0 A1 n1 c1 Ag ng cg An nn cn) (hb : Below w.heap.size w w') : AskR w' S p As ns cs Ax nx cx A0 n0 c0 A1 n1 c1 Ag ng cg An nn cn :=
  ⟨h.s.all hb, h.x.all hb, h.y0.all hb, h.y1.all hb, h.g.all hb, h.n.all hb⟩
end Go.Proofs.Ytjeecdoffoahkaa
