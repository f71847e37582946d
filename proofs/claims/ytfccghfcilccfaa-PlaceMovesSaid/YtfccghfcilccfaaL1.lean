/- How the arguments of the laws on slots read; what a law that leaves the old memory as it was leaves. -/
import Derived.Test.YtfccghfcilccfaaL0
import Derived.Test.YtfccghfcilccfaaProg
namespace Go.Proofs.Ytfccghfcilccfaa
open Go.RowKit Go.ChangeShapes Go.WideShapes Go.Deep Go.Silo

theorem reads_ints : Reads Try.prog (slE false 3 intE) 52 := reads_slice Try.underlying52 (by kernel_rfl) (by decide) (reads_int Try.underlying3)
theorem reads_bools : Reads Try.prog (slE false 4 boolE) 30 := reads_slice Try.underlying30 (by kernel_rfl) (by decide) (reads_bool Try.underlying4)
theorem reads_intss : Reads Try.prog (slE false 52 (slE false 3 intE)) 60 := reads_slice Try.underlying60 (by kernel_rfl) (by decide) reads_ints
set_option maxRecDepth 100000 in
theorem reads_slot : Reads Try.prog slotE 104 := by
  intro H enc w fuel cs x h hfz
  obtain ⟨y0, y1, n, rfl, hl, h0, h1⟩ := trod_struct2 Try.underlying104 h
  have hc : Try.prog.cellsOf 104 = 2 := by kernel_rfl
  have hi : Try.prog.cellsOf 3 = 1 := by kernel_rfl
  rw [hc] at hl
  match cs, hl with
  | [c0, c1], _ =>
  simp only [hi] at h0 h1
  obtain ⟨a0, e0, i0⟩ := reads_int Try.underlying3 H enc w n _ _ h0 (noneFrozen_left hfz)
  obtain ⟨a1, e1, i1⟩ := reads_int Try.underlying3 H enc w n _ _ h1 (noneFrozen_right hfz)
  simp at e0 e1
  subst e0 e1
  exact ⟨⟨a0, a1⟩, rfl, i0, i1⟩
set_option maxRecDepth 100000 in
theorem reads_act : Reads Try.prog (actDE false) 135 := by
  intro H enc w fuel cs x h hfz
  obtain ⟨xs, n, _, rfl, hl, hlen, hf⟩ := DataW.trod_struct Try.underlying135 h
  have hc : Try.prog.cellsOf 135 = 7 := by kernel_rfl
  have hi : Try.prog.cellsOf 3 = 1 := by kernel_rfl
  have hb : Try.prog.cellsOf 4 = 1 := by kernel_rfl
  have hs : Try.prog.cellsOf 104 = 2 := by kernel_rfl
  have hn : Try.prog.cellsOf 52 = 1 := by kernel_rfl
  rw [hc] at hl
  match cs, hl with
  | [c0, c1, c2, c3, c4, c5, c6], _ =>
  match xs, hlen with
  | [y0, y1, y2, y3, y4, y5], _ =>
  have h0 : DataW.trod enc Try.prog w 0 (fun _ => true) true n 3 (([c0, c1, c2, c3, c4, c5, c6].drop 0).take (Try.prog.cellsOf 3)) = some y0 := hf 0 _ rfl
  rw [hi] at h0
  have h1 : DataW.trod enc Try.prog w 0 (fun _ => true) true n 3 (([c0, c1, c2, c3, c4, c5, c6].drop 1).take (Try.prog.cellsOf 3)) = some y1 := hf 1 _ rfl
  rw [hi] at h1
  have h2 : DataW.trod enc Try.prog w 0 (fun _ => true) true n 3 (([c0, c1, c2, c3, c4, c5, c6].drop 2).take (Try.prog.cellsOf 3)) = some y2 := hf 2 _ rfl
  rw [hi] at h2
  have h3 : DataW.trod enc Try.prog w 0 (fun _ => true) true n 4 (([c0, c1, c2, c3, c4, c5, c6].drop 3).take (Try.prog.cellsOf 4)) = some y3 := hf 3 _ rfl
  rw [hb] at h3
  have h4 : DataW.trod enc Try.prog w 0 (fun _ => true) true n 104 (([c0, c1, c2, c3, c4, c5, c6].drop 4).take (Try.prog.cellsOf 104)) = some y4 := hf 4 _ rfl
  rw [hs] at h4
  have h5 : DataW.trod enc Try.prog w 0 (fun _ => true) true n 52 (([c0, c1, c2, c3, c4, c5, c6].drop 6).take (Try.prog.cellsOf 52)) = some y5 := hf 5 _ rfl
  rw [hn] at h5
  have hz : ∀ y ∈ [y0, y1, y2, y3, y4, y5], w.noneFrozen y.2 := fun y hy b o hm => hfz b o (List.mem_flatMap.2 ⟨y, hy, hm⟩)
  obtain ⟨a0, e0, i0⟩ := reads_int Try.underlying3 H enc w n _ _ h0 (hz _ (by simp))
  obtain ⟨a1, e1, i1⟩ := reads_int Try.underlying3 H enc w n _ _ h1 (hz _ (by simp))
  obtain ⟨a2, e2, i2⟩ := reads_int Try.underlying3 H enc w n _ _ h2 (hz _ (by simp))
  obtain ⟨a3, e3, _⟩ := reads_bool Try.underlying4 H enc w n _ _ h3 (hz _ (by simp))
  obtain ⟨a4, e4, i4⟩ := reads_slot H enc w n _ _ h4 (hz _ (by simp))
  obtain ⟨a5, A6, n6, c6', e5, i5⟩ := reads_ints H enc w n _ _ h5 (hz _ (by simp))
  simp at e0 e1 e2 e3 e4 e5
  obtain ⟨e4, e4'⟩ := e4
  subst e0 e1 e2 e3 e4 e4' e5
  exact ⟨⟨a0, a1, a2, a3, a4.disk, a4.pos, a5⟩, A6, n6, c6', rfl, ⟨i0, i1, i2, i4.1, i4.2⟩, i5⟩
theorem reads_acts : Reads Try.prog (slE false 135 (actDE false)) 110 := reads_slice Try.underlying110 (by kernel_rfl) (by decide) reads_act
set_option maxRecDepth 100000 in
theorem reads_slots : Reads Try.prog (slotsDE false) 62 := by
  intro H enc w fuel cs x h hfz
  obtain ⟨y0, y1, n, rfl, hl, h0, h1⟩ := trod_struct2 Try.underlying62 h
  have hc : Try.prog.cellsOf 62 = 2 := by kernel_rfl
  have hb : Try.prog.cellsOf 30 = 1 := by kernel_rfl
  have hi : Try.prog.cellsOf 60 = 1 := by kernel_rfl
  rw [hc] at hl
  match cs, hl with
  | [c0, c1], _ =>
  simp only [hb, hi] at h0 h1
  obtain ⟨a0, A0, n0, k0, e0, i0⟩ := reads_bools H enc w n _ _ h0 (noneFrozen_left hfz)
  obtain ⟨a1, A1, n1, k1, e1, i1⟩ := reads_intss H enc w n _ _ h1 (noneFrozen_right hfz)
  simp at e0 e1
  subst e0 e1
  exact ⟨⟨a0, a1⟩, A0, n0, k0, A1, n1, k1, rfl, trivial, i0, i1⟩

set_option maxRecDepth 100000 in
/-- A script, as a law's argument. -/
theorem open_script {H : Type} {enc : TypeId × Value → H} {w : World} {v : Value} {d : DataW H} {p : List MemPlace} {r : Reach} {b0 : Nat} (hv : Value.okWide Try.prog w r b0 112 v) (h : DataW.Trod enc Try.prog w 0 (fun _ => true) true 112 v d p) (hfz : w.noneFrozen p) :
    ∃ A0 n0 c0 A1 n1 c1 A2 n2 c2, ∃ x : SlotsD, ∃ l : List ActD, v = .agg #[.slice A0 n0 c0, .slice A1 n1 c1, .slice A2 n2 c2] ∧ Sl false 4 boolE w (fun b => b < w.heap.size) A0 n0 c0 x.live ∧ Sl false 52 (slE false 3 intE) w (fun b => b < w.heap.size) A1 n1 c1 x.free ∧
      Sl false 135 (actDE false) w (fun b => b < w.heap.size) A2 n2 c2 l := by
  obtain ⟨cs, rfl, hsz⟩ := okWide_struct Try.underlying112 hv
  obtain ⟨fuel, hf⟩ := h
  have hcells : (Value.agg cs).cells.toList = cs.toList := rfl
  rw [hcells] at hf
  obtain ⟨y0, y1, n, e, hl, h0, h1⟩ := trod_struct2 Try.underlying112 hf
  injection e with e e'
  subst e'
  have hc : Try.prog.cellsOf 112 = 3 := by kernel_rfl
  have hs : Try.prog.cellsOf 62 = 2 := by kernel_rfl
  have ha : Try.prog.cellsOf 110 = 1 := by kernel_rfl
  obtain ⟨cs⟩ := cs
  rw [hc] at hl
  match cs, hl with
  | [v0, v1, v2], _ =>
  simp only [hs, ha] at h0 h1
  obtain ⟨x, A0, n0, c0, A1, n1, c1, e0, _, i0, i1⟩ := reads_slots H enc w n _ _ h0 (noneFrozen_left hfz)
  obtain ⟨l, A2, n2, c2, e2, i2⟩ := reads_acts H enc w n _ _ h1 (noneFrozen_right hfz)
  simp at e0 e2
  obtain ⟨e0, e1⟩ := e0
  subst e0 e1 e2
  exact ⟨A0, n0, c0, A1, n1, c1, A2, n2, c2, x, l, rfl, i0, i1, i2⟩

/-- The row's last step: nothing of old is turned. -/
theorem law_post {H : Type} {enc : TypeId × Value → H} {P : Program} {f : Func} {s : ChangeSpec} {W W' : World} {args : Array Value} {v : Value} {ds gs : List (DataW H)} {before pa pv : List MemPlace}
    (hW : DataW.Whole enc P f.params.toList s.vars false W args.toList ds gs before) (hres : DataW.TrodAll enc P W' W.heap.size (fun _ => false) false f.resultTypes.toList (v.resultList f.resultTypes.size) (s.fn H (ds ++ gs)).results [])
    (hargs : DataW.TrodAll enc P W' 0 (fun b => decide (b < W.heap.size)) true f.params.toList args.toList (s.fn H (ds ++ gs)).args pa) (hvars : DataW.TrodVars enc P W' (fun b => decide (b < W.heap.size)) s.vars (s.fn H (ds ++ gs)).vars pv)
    (hb : Below W.heap.size W W') : s.post enc P f false true false false W args v W' :=
  ⟨ds, gs, before, [], pa, pv, hW, hres, hargs, hvars, hb.frame _, fun h => by cases h⟩
end Go.Proofs.Ytfccghfcilccfaa
