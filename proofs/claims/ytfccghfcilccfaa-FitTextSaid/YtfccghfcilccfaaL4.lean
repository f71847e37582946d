/- How silolaw18's asks read; no list is longer than the reach. -/
import Derived.Test.YtfccghfcilccfaaL3
namespace Go.Proofs.Ytfccghfcilccfaa
open Go.RowKit Go.ChangeShapes Go.WideShapes Go.Deep Go.Silo

/-- An ask: shapes, slots, a number. -/
structure AskF where
  s : List Shape
  x : SlotsD
  n : Int
def AskFB (p : AskF) : Prop := (p.s.length * 24 ≤ reachBytes ∧ ∀ y ∈ p.s, True) ∧ SlotsB p.x
/-- What an ask's cells are. -/
structure AskFR (w : World) (S : Nat → Prop) (p : AskF) (As : Option Addr) (ns cs : Nat) (A0 : Option Addr) (n0 c0 : Nat) (A1 : Option Addr) (n1 c1 : Nat) : Prop where
  s : Sl false 23 shapeE w S As ns cs p.s
  x0 : Sl false 4 boolE w S A0 n0 c0 p.x.live
  x1 : Sl false 52 (slE false 3 intE) w S A1 n1 c1 p.x.free
  n : I64 p.n
theorem AskFR.all {w w' : World} {S : Nat → Prop} {p : AskF} {As A0 A1 : Option Addr} {ns cs n0 c0 n1 c1 : Nat} (h : AskFR w S p As ns cs A0 n0 c0 A1 n1 c1) (hb : Below w.heap.size w w') : AskFR w' S p As ns cs A0 n0 c0 A1 n1 c1 :=
  ⟨h.s.all hb, h.x0.all hb, h.x1.all hb, h.n⟩
set_option maxRecDepth 100000 in
theorem open_askF {H : Type} {enc : TypeId × Value → H} {w : World} {v : Value} {d : DataW H} {p : List MemPlace} {r : Reach} {b0 : Nat} (hv : Value.okWide Try.prog w r b0 64 v) (h : DataW.Trod enc Try.prog w 0 (fun _ => true) true 64 v d p) (hfz : w.noneFrozen p)
    (hw : ∀ k ∈ d.weights Try.prog 64, k ≤ reachBytes) :
    ∃ As ns cs A0 n0 c0 A1 n1 c1, ∃ q : AskF, v = .agg #[.slice As ns cs, .slice A0 n0 c0, .slice A1 n1 c1, .int .i64 q.n] ∧ AskFR w (fun b => b < w.heap.size) q As ns cs A0 n0 c0 A1 n1 c1 ∧ AskFB q := by
  obtain ⟨cs, rfl, hsz⟩ := okWide_struct Try.underlying64 hv
  obtain ⟨fuel, hf0⟩ := h
  have hcells : (Value.agg cs).cells.toList = cs.toList := rfl
  rw [hcells] at hf0
  obtain ⟨xs, n, _, e, hl, hlen, hf⟩ := DataW.trod_struct Try.underlying64 hf0
  injection e with e e'
  subst e e'
  have hc : Try.prog.cellsOf 64 = 4 := by kernel_rfl
  have hs0 : Try.prog.cellsOf 59 = 1 := by kernel_rfl
  have hs1 : Try.prog.cellsOf 62 = 2 := by kernel_rfl
  have hs2 : Try.prog.cellsOf 3 = 1 := by kernel_rfl
  obtain ⟨cs⟩ := cs
  rw [hc] at hl
  match cs, hl with
  | [v0, v1, v2, v3], _ =>
  match xs, hlen with
  | [y0, y1, y2], _ =>
  have h0 : DataW.trod enc Try.prog w 0 (fun _ => true) true n 59 (([v0, v1, v2, v3].drop 0).take (Try.prog.cellsOf 59)) = some y0 := hf 0 _ rfl
  rw [hs0] at h0
  have h1 : DataW.trod enc Try.prog w 0 (fun _ => true) true n 62 (([v0, v1, v2, v3].drop 1).take (Try.prog.cellsOf 62)) = some y1 := hf 1 _ rfl
  rw [hs1] at h1
  have h2 : DataW.trod enc Try.prog w 0 (fun _ => true) true n 3 (([v0, v1, v2, v3].drop 3).take (Try.prog.cellsOf 3)) = some y2 := hf 2 _ rfl
  rw [hs2] at h2
  have hz : ∀ y ∈ [y0, y1, y2], w.noneFrozen y.2 := fun y hy b o hm => hfz b o (List.mem_flatMap.2 ⟨y, hy, hm⟩)
  simp only [DataW.weights, Try.underlying64] at hw
  obtain ⟨a0, ⟨A0, n0, k0, e0, i0⟩, j0⟩ := readsB_shapes H enc w n _ _ h0 (hz _ (by simp)) (fun k hk => hw k (DataW.weights_mem_each (j := 0) (t := 59) (d := y0.1) rfl rfl k hk))
  obtain ⟨a1, ⟨A1, n1, k1, A1', n1', k1', e1, _, i1, i1'⟩, j1⟩ := readsB_slots H enc w n _ _ h1 (hz _ (by simp)) (fun k hk => hw k (DataW.weights_mem_each (j := 1) (t := 62) (d := y1.1) rfl rfl k hk))
  obtain ⟨a2, e2, i2⟩ := reads_int Try.underlying3 H enc w n _ _ h2 (hz _ (by simp))
  simp at e0 e1 e2
  obtain ⟨e1, e1'⟩ := e1
  subst e0 e1 e1' e2
  exact ⟨_, _, _, _, _, _, _, _, _, ⟨a0, a1, a2⟩, rfl, ⟨i0, i1, i1', i2⟩, j0, j1⟩
end Go.Proofs.Ytfccghfcilccfaa
