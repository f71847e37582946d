/- As L0 and L1, where each slice that is read is bounded by the reach: how long the lists are. -/
import Derived.Test.YtjeecdoffoahkaaData
import Derived.Deep.Slices
import Derived.ProofKit
import Derived.Carry
import Derived.Below
import Derived.ChangeSame
import Derived.Test.YtjeecdoffoahkaaProg
import Derived.SizedLaws
-- from L1
-- from L0
namespace Go.Silo
open Go.RowKit Go.ChangeShapes Go.WideShapes Go.Deep

/-- What the rows read as data of type t reads as E, all of it in blocks that are there. -/
def Reads {α : Type} (P : Program) (E : Enc α) (t : TypeId) : Prop :=
  ∀ (H : Type) (enc : TypeId × Value → H) (w : World) (fuel : Nat) (cs : List Value) (x : DataW H × List MemPlace),
    DataW.trod enc P w 0 (fun _ => true) true fuel t cs = some x → w.noneFrozen x.2 → ∃ a, E.R w (fun b => b < w.heap.size) cs a

theorem noneFrozen_left {w : World} {p q : List MemPlace} (h : w.noneFrozen (p ++ q)) : w.noneFrozen p := fun b o hm => h b o (List.mem_append_left _ hm)
theorem noneFrozen_right {w : World} {p q : List MemPlace} (h : w.noneFrozen (p ++ q)) : w.noneFrozen q := fun b o hm => h b o (List.mem_append_right _ hm)

theorem reads_int {P : Program} {t : TypeId} (ht : P.underlying t = some (.int .i64)) : Reads P intE t := by
  intro H enc w fuel cs x h _
  obtain ⟨n, rfl, _, hw⟩ := DataW.trod_int ht h
  refine ⟨n, rfl, ?_⟩
  simp [Lit.wf, IntKind.min, IntKind.max, IntKind.signed, IntKind.bits] at hw
  exact ⟨by omega, by omega⟩
theorem reads_bool {P : Program} {t : TypeId} (ht : P.underlying t = some .bool) : Reads P boolE t := by
  intro H enc w fuel cs x h _
  obtain ⟨b, rfl, _⟩ := DataW.trod_bool ht h
  exact ⟨b, rfl, trivial⟩

theorem list_of {α : Type} {p : Nat → α → Prop} : ∀ n : Nat, (∀ i, i < n → ∃ x, p i x) → ∃ xs : List α, xs.length = n ∧ ∀ k x, xs[k]? = some x → p k x
  | 0, _ => ⟨[], rfl, fun k x h => by simp at h⟩
  | n + 1, h => by
    obtain ⟨xs, hl, hx⟩ := list_of n (fun i hi => h i (by omega))
    obtain ⟨y, hy⟩ := h n (by omega)
    refine ⟨xs ++ [y], by simp [hl], fun k x hk => ?_⟩
    rcases Nat.lt_or_ge k n with hk' | hk'
    · rw [List.getElem?_append_left (by omega)] at hk
      exact hx k x hk
    · rw [List.getElem?_append_right (by omega), hl] at hk
      have : k - n = 0 := by
        rcases Nat.eq_zero_or_pos (k - n) with h0 | h0
        · exact h0
        · rw [List.getElem?_eq_none (by simp; omega)] at hk; cases hk
      rw [this] at hk
      injection hk with hk
      subst hk
      rw [show k = n by omega]; exact hy

theorem reads_slice {α : Type} {P : Program} {E : Enc α} {t e T : TypeId} (ht : P.underlying t = some (.slice e)) (hc : P.cellsOf e = E.sz) (hpos : 0 < E.sz) (hE : Reads P E e) : Reads P (slE false T E) t := by
  intro H enc w fuel cs x h hfz
  rcases open_slice ht h with ⟨rfl, rfl⟩ | ⟨a, len, cap, m, n, D, Pl, rfl, _, hl, hm, hmm, rfl, hi⟩
  · exact ⟨[], none, 0, 0, rfl, Sl.nil_ (by omega)⟩
  · simp only [if_true] at hmm
    subst hmm
    rw [hc] at hi hfz
    have hel : ∀ i, i < len → ∃ y, ∃ vs, E.R w (fun b => b < w.heap.size) vs y ∧ w.cells? 0 (a.add (i * E.sz)) E.sz = some vs := by
      intro i hil
      obtain ⟨cs', h1, h2⟩ := hi i (by omega)
      obtain ⟨y, hy⟩ := hE H enc w n cs' _ h2 (fun b o hm' => hfz b o (List.mem_append_right _ (List.mem_flatMap.2 ⟨i, List.mem_range.2 (by omega), hm'⟩)))
      exact ⟨y, cs', hy, h1⟩
    obtain ⟨xs, hxl, hx⟩ := list_of len hel
    refine ⟨xs, some a, len, _, rfl, hxl, hl, hm, fun h0 => ?_⟩
    obtain ⟨vs0, hv0, hc0⟩ := hx 0 _ (List.getElem?_eq_getElem (by omega))
    obtain ⟨_, hl0, hat0⟩ := World.cells?_some hc0
    have hfirst : w.cell? a = some (vs0[0]'(by omega)) := by
      have := hat0 0 hpos
      rw [Nat.zero_mul] at this
      rw [List.getElem?_eq_getElem (by omega)] at this
      simpa [Addr.add] using this
    obtain ⟨ab, ao, asp⟩ := a
    obtain rfl : asp = none := World.cell?_spot hfirst
    refine ⟨ab, ao, rfl, World.block_lt_of_cell? w _ hfirst, World.block_lt_of_cell? w _ hfirst, (fun h => by cases h), fun k y hk => ?_⟩
    obtain ⟨vs, hv, hck⟩ := hx k y hk
    have hkl : k < len := by have := (List.getElem?_eq_some_iff.1 hk).1; omega
    obtain ⟨_, hlv, hat⟩ := World.cells?_some hck
    refine ⟨vs, hv, fun j v hj => ?_⟩
    have hjl : j < E.sz := by have := (List.getElem?_eq_some_iff.1 hj).1; omega
    have hadd : ∀ m, (⟨ab, ao, none⟩ : Addr).add m = ⟨ab, ao + m, none⟩ := by
      intro m
      unfold Addr.add
      split
      · rename_i h; rw [h]; rfl
      · rfl
    have h1 := hat j hjl
    rw [Go.Deep.add_add, hadd, hj, ← Nat.add_assoc] at h1
    refine ⟨h1, hfz ab _ (List.mem_append_left _ ?_)⟩
    unfold MemPlace.row
    refine List.mem_map.2 ⟨k * E.sz + j, List.mem_range.2 ?_, by simp [Nat.add_assoc]⟩
    have h2 : (k + 1) * E.sz ≤ m * E.sz := Nat.mul_le_mul_right _ (by omega)
    rw [Nat.succ_mul] at h2
    omega
end Go.Silo
namespace Go.Proofs.Ytjeecdoffoahkaa
open Go.RowKit Go.ChangeShapes Go.WideShapes Go.Deep Go.Silo

theorem reads_ints : Reads Try.prog (slE false 3 intE) 52 := reads_slice Try.underlying52 (by kernel_rfl) (by decide) (reads_int Try.underlying3)
theorem reads_bools : Reads Try.prog (slE false 4 boolE) 30 := reads_slice Try.underlying30 (by kernel_rfl) (by decide) (reads_bool Try.underlying4)
theorem reads_intss : Reads Try.prog (slE false 52 (slE false 3 intE)) 60 := reads_slice Try.underlying60 (by kernel_rfl) (by decide) reads_ints
set_option maxRecDepth 100000 in
theorem reads_slot : Reads Try.prog slotE 112 := by
  intro H enc w fuel cs x h hfz
  obtain ⟨y0, y1, n, rfl, hl, h0, h1⟩ := trod_struct2 Try.underlying112 h
  have hc : Try.prog.cellsOf 112 = 2 := by kernel_rfl
  have hi : Try.prog.cellsOf 3 = 1 := by kernel_rfl
  rw [hc] at hl
  match cs, hl with
  | [c0, c1], _ =>
  simp only [hi] at h0 h1
  obtain ⟨a0, e0, i0⟩ := reads_int Try.underlying3 H enc w n _ _ h0 (noneFrozen_left hfz)
  obtain ⟨a1, e1, i1⟩ := reads_int Try.underlying3 H enc w n _ _ h1 (noneFrozen_right hfz)
  simp at e0 e1
  subst e0 e1
  exact ⟨⟨a0, a1⟩, rfl, i0, i1⟩
set_option maxRecDepth 100000 in
theorem reads_act : Reads Try.prog (actDE false) 114 := by
  intro H enc w fuel cs x h hfz
  obtain ⟨xs, n, _, rfl, hl, hlen, hf⟩ := DataW.trod_struct Try.underlying114 h
  have hc : Try.prog.cellsOf 114 = 7 := by kernel_rfl
  have hi : Try.prog.cellsOf 3 = 1 := by kernel_rfl
  have hb : Try.prog.cellsOf 4 = 1 := by kernel_rfl
  have hs : Try.prog.cellsOf 112 = 2 := by kernel_rfl
  have hn : Try.prog.cellsOf 52 = 1 := by kernel_rfl
  rw [hc] at hl
  match cs, hl with
  | [c0, c1, c2, c3, c4, c5, c6], _ =>
  match xs, hlen with
  | [y0, y1, y2, y3, y4, y5], _ =>
  have h0 : DataW.trod enc Try.prog w 0 (fun _ => true) true n 3 (([c0, c1, c2, c3, c4, c5, c6].drop 0).take (Try.prog.cellsOf 3)) = some y0 := hf 0 _ rfl
  rw [hi] at h0
  have h1 : DataW.trod enc Try.prog w 0 (fun _ => true) true n 3 (([c0, c1, c2, c3, c4, c5, c6].drop 1).take (Try.prog.cellsOf 3)) = some y1 := hf 1 _ rfl
  rw [hi] at h1
  have h2 : DataW.trod enc Try.prog w 0 (fun _ => true) true n 3 (([c0, c1, c2, c3, c4, c5, c6].drop 2).take (Try.prog.cellsOf 3)) = some y2 := hf 2 _ rfl
  rw [hi] at h2
  have h3 : DataW.trod enc Try.prog w 0 (fun _ => true) true n 4 (([c0, c1, c2, c3, c4, c5, c6].drop 3).take (Try.prog.cellsOf 4)) = some y3 := hf 3 _ rfl
  rw [hb] at h3
  have h4 : DataW.trod enc Try.prog w 0 (fun _ => true) true n 112 (([c0, c1, c2, c3, c4, c5, c6].drop 4).take (Try.prog.cellsOf 112)) = some y4 := hf 4 _ rfl
  rw [hs] at h4
  have h5 : DataW.trod enc Try.prog w 0 (fun _ => true) true n 52 (([c0, c1, c2, c3, c4, c5, c6].drop 6).take (Try.prog.cellsOf 52)) = some y5 := hf 5 _ rfl
  rw [hn] at h5
  have hz : ∀ y ∈ [y0, y1, y2, y3, y4, y5], w.noneFrozen y.2 := fun y hy b o hm => hfz b o (List.mem_flatMap.2 ⟨y, hy, hm⟩)
  obtain ⟨a0, e0, i0⟩ := reads_int Try.underlying3 H enc w n _ _ h0 (hz _ (by simp))
  obtain ⟨a1, e1, i1⟩ := reads_int Try.underlying3 H enc w n _ _ h1 (hz _ (by simp))
  obtain ⟨a2, e2, i2⟩ := reads_int Try.underlying3 H enc w n _ _ h2 (hz _ (by simp))
  obtain ⟨a3, e3, _⟩ := reads_bool Try.underlying4 H enc w n _ _ h3 (hz _ (by simp))
  obtain ⟨a4, e4, i4⟩ := reads_slot H enc w n _ _ h4 (hz _ (by simp))
  obtain ⟨a5, A6, n6, c6', e5, i5⟩ := reads_ints H enc w n _ _ h5 (hz _ (by simp))
  simp at e0 e1 e2 e3 e4 e5
  obtain ⟨e4, e4'⟩ := e4
  subst e0 e1 e2 e3 e4 e4' e5
  exact ⟨⟨a0, a1, a2, a3, a4.disk, a4.pos, a5⟩, A6, n6, c6', rfl, ⟨i0, i1, i2, i4.1, i4.2⟩, i5⟩
theorem reads_acts : Reads Try.prog (slE false 114 (actDE false)) 105 := reads_slice Try.underlying105 (by kernel_rfl) (by decide) reads_act
set_option maxRecDepth 100000 in
theorem reads_slots : Reads Try.prog (slotsDE false) 62 := by
  intro H enc w fuel cs x h hfz
  obtain ⟨y0, y1, n, rfl, hl, h0, h1⟩ := trod_struct2 Try.underlying62 h
  have hc : Try.prog.cellsOf 62 = 2 := by kernel_rfl
  have hb : Try.prog.cellsOf 30 = 1 := by kernel_rfl
  have hi : Try.prog.cellsOf 60 = 1 := by kernel_rfl
  rw [hc] at hl
  match cs, hl with
  | [c0, c1], _ =>
  simp only [hb, hi] at h0 h1
  obtain ⟨a0, A0, n0, k0, e0, i0⟩ := reads_bools H enc w n _ _ h0 (noneFrozen_left hfz)
  obtain ⟨a1, A1, n1, k1, e1, i1⟩ := reads_intss H enc w n _ _ h1 (noneFrozen_right hfz)
  simp at e0 e1
  subst e0 e1
  exact ⟨⟨a0, a1⟩, A0, n0, k0, A1, n1, k1, rfl, trivial, i0, i1⟩

set_option maxRecDepth 100000 in
/-- A script, as a law's argument. -/
theorem open_script {H : Type} {enc : TypeId × Value → H} {w : World} {v : Value} {d : DataW H} {p : List MemPlace} {r : Reach} {b0 : Nat} (hv : Value.okWide Try.prog w r b0 107 v) (h : DataW.Trod enc Try.prog w 0 (fun _ => true) true 107 v d p) (hfz : w.noneFrozen p) :
    ∃ A0 n0 c0 A1 n1 c1 A2 n2 c2, ∃ x : SlotsD, ∃ l : List ActD, v = .agg #[.slice A0 n0 c0, .slice A1 n1 c1, .slice A2 n2 c2] ∧ Sl false 4 boolE w (fun b => b < w.heap.size) A0 n0 c0 x.live ∧ Sl false 52 (slE false 3 intE) w (fun b => b < w.heap.size) A1 n1 c1 x.free ∧
      Sl false 114 (actDE false) w (fun b => b < w.heap.size) A2 n2 c2 l := by
  obtain ⟨cs, rfl, hsz⟩ := okWide_struct Try.underlying107 hv
  obtain ⟨fuel, hf⟩ := h
  have hcells : (Value.agg cs).cells.toList = cs.toList := rfl
  rw [hcells] at hf
  obtain ⟨y0, y1, n, e, hl, h0, h1⟩ := trod_struct2 Try.underlying107 hf
  injection e with e e'
  subst e'
  have hc : Try.prog.cellsOf 107 = 3 := by kernel_rfl
  have hs : Try.prog.cellsOf 62 = 2 := by kernel_rfl
  have ha : Try.prog.cellsOf 105 = 1 := by kernel_rfl
  obtain ⟨cs⟩ := cs
  rw [hc] at hl
  match cs, hl with
  | [v0, v1, v2], _ =>
  simp only [hs, ha] at h0 h1
  obtain ⟨x, A0, n0, c0, A1, n1, c1, e0, _, i0, i1⟩ := reads_slots H enc w n _ _ h0 (noneFrozen_left hfz)
  obtain ⟨l, A2, n2, c2, e2, i2⟩ := reads_acts H enc w n _ _ h1 (noneFrozen_right hfz)
  simp at e0 e2
  obtain ⟨e0, e1⟩ := e0
  subst e0 e1 e2
  exact ⟨A0, n0, c0, A1, n1, c1, A2, n2, c2, x, l, rfl, i0, i1, i2⟩

/-- The row's last step: nothing of old is turned. -/
theorem law_post {H : Type} {enc : TypeId × Value → H} {P : Program} {f : Func} {s : ChangeSpec} {W W' : World} {args : Array Value} {v : Value} {ds gs : List (DataW H)} {before pa pv : List MemPlace}
    (hW : DataW.Whole enc P f.params.toList s.vars false W args.toList ds gs before) (hres : DataW.TrodAll enc P W' W.heap.size (fun _ => false) false f.resultTypes.toList (v.resultList f.resultTypes.size) (s.fn H (ds ++ gs)).results [])
    (hargs : DataW.TrodAll enc P W' 0 (fun b => decide (b < W.heap.size)) true f.params.toList args.toList (s.fn H (ds ++ gs)).args pa) (hvars : DataW.TrodVars enc P W' (fun b => decide (b < W.heap.size)) s.vars (s.fn H (ds ++ gs)).vars pv)
    (hb : Below W.heap.size W W') : s.post enc P f false true false false W args v W' :=
  ⟨ds, gs, before, [], pa, pv, hW, hres, hargs, hvars, hb.frame _, fun h => by cases h⟩
end Go.Proofs.Ytjeecdoffoahkaa
namespace Go.Silo
open Go.RowKit Go.ChangeShapes Go.WideShapes Go.Deep

/-- As 'Reads'; and B is true of what is read, where no slice outweighs the reach. -/
def ReadsB {α : Type} (P : Program) (E : Enc α) (t : TypeId) (B : α → Prop) : Prop :=
  ∀ (H : Type) (enc : TypeId × Value → H) (w : World) (fuel : Nat) (cs : List Value) (x : DataW H × List MemPlace),
    DataW.trod enc P w 0 (fun _ => true) true fuel t cs = some x → w.noneFrozen x.2 → (∀ n ∈ x.1.weights P t, n ≤ reachBytes) → ∃ a, E.R w (fun b => b < w.heap.size) cs a ∧ B a
theorem Reads.any {α : Type} {P : Program} {E : Enc α} {t : TypeId} (h : Reads P E t) : ReadsB P E t (fun _ => True) := by
  intro H enc w fuel cs x h1 h2 _
  obtain ⟨a, ha⟩ := h H enc w fuel cs x h1 h2
  exact ⟨a, ha, trivial⟩

theorem weightsAll_mem {H : Type} {P : Program} {e : TypeId} {d : DataW H} : ∀ {ds : List (DataW H)}, d ∈ ds → ∀ n ∈ d.weights P e, n ∈ DataW.weightsAll P e ds
  | [], h => by cases h
  | d0 :: ds, h => by
    intro n hn
    unfold DataW.weightsAll
    rcases List.mem_cons.1 h with rfl | h
    · exact List.mem_append_left _ hn
    · exact List.mem_append_right _ (weightsAll_mem h n hn)

theorem reads_sliceB {α : Type} {P : Program} {E : Enc α} {t e T : TypeId} {B : α → Prop} (ht : P.underlying t = some (.slice e)) (hc : P.cellsOf e = E.sz) (hpos : 0 < E.sz) (K : Nat) (hbytes : P.bytesOf e = K) (hE : ReadsB P E e B) :
    ReadsB P (slE false T E) t (fun xs => xs.length * K ≤ reachBytes ∧ ∀ y ∈ xs, B y) := by
  intro H enc w fuel cs x h hfz hw
  rcases open_slice ht h with ⟨rfl, rfl⟩ | ⟨a, len, cap, m, n, D, Pl, rfl, _, hl, hm, hmm, rfl, hi⟩
  · exact ⟨[], ⟨none, 0, 0, rfl, Sl.nil_ (by omega)⟩, by simp, fun y hy => by cases hy⟩
  · simp only [if_true] at hmm
    subst hmm
    rw [hc] at hi hfz
    simp only [DataW.weights, ht, hbytes] at hw
    have hlen : len * K ≤ reachBytes := by
      have h1 := hw _ (List.mem_cons_self ..)
      simp only [List.length_map, List.length_range] at h1
      exact Nat.le_trans (Nat.mul_le_mul_right _ (by omega)) h1
    have hel : ∀ i, i < len → ∃ y, B y ∧ ∃ vs, E.R w (fun b => b < w.heap.size) vs y ∧ w.cells? 0 (a.add (i * E.sz)) E.sz = some vs := by
      intro i hil
      obtain ⟨cs', h1, h2⟩ := hi i (by omega)
      obtain ⟨y, hy, hB⟩ := hE H enc w n cs' _ h2 (fun b o hm' => hfz b o (List.mem_append_right _ (List.mem_flatMap.2 ⟨i, List.mem_range.2 (by omega), hm'⟩)))
        (fun k hk => hw k (List.mem_cons_of_mem _ (List.mem_append_left _ (weightsAll_mem (List.mem_map.2 ⟨i, List.mem_range.2 hil, rfl⟩) k hk))))
      exact ⟨y, hB, cs', hy, h1⟩
    obtain ⟨xs, hxl, hx⟩ := list_of len hel
    refine ⟨xs, ⟨some a, len, _, rfl, hxl, hl, hm, fun h0 => ?_⟩, by rw [hxl]; exact hlen, fun y hy => ?_⟩
    · obtain ⟨_, vs0, hv0, hc0⟩ := hx 0 _ (List.getElem?_eq_getElem (by omega))
      obtain ⟨_, hl0, hat0⟩ := World.cells?_some hc0
      have hfirst : w.cell? a = some (vs0[0]'(by omega)) := by
        have := hat0 0 hpos
        rw [Nat.zero_mul] at this
        rw [List.getElem?_eq_getElem (by omega)] at this
        simpa [Addr.add] using this
      obtain ⟨ab, ao, asp⟩ := a
      obtain rfl : asp = none := World.cell?_spot hfirst
      refine ⟨ab, ao, rfl, World.block_lt_of_cell? w _ hfirst, World.block_lt_of_cell? w _ hfirst, (fun h => by cases h), fun k y hk => ?_⟩
      obtain ⟨_, vs, hv, hck⟩ := hx k y hk
      have hkl : k < len := by have := (List.getElem?_eq_some_iff.1 hk).1; omega
      obtain ⟨_, hlv, hat⟩ := World.cells?_some hck
      refine ⟨vs, hv, fun j v hj => ?_⟩
      have hjl : j < E.sz := by have := (List.getElem?_eq_some_iff.1 hj).1; omega
      have hadd : ∀ m, (⟨ab, ao, none⟩ : Addr).add m = ⟨ab, ao + m, none⟩ := by
        intro m
        unfold Addr.add
        split
        · rename_i h; rw [h]; rfl
        · rfl
      have h1 := hat j hjl
      rw [Go.Deep.add_add, hadd, hj, ← Nat.add_assoc] at h1
      refine ⟨h1, hfz ab _ (List.mem_append_left _ ?_)⟩
      unfold MemPlace.row
      refine List.mem_map.2 ⟨k * E.sz + j, List.mem_range.2 ?_, by simp [Nat.add_assoc]⟩
      have h2 : (k + 1) * E.sz ≤ m * E.sz := Nat.mul_le_mul_right _ (by omega)
      rw [Nat.succ_mul] at h2
      omega
    · obtain ⟨k, hk⟩ := List.mem_iff_getElem?.1 hy
      exact (hx k y hk).1
end Go.Silo

namespace Go.Proofs.Ytjeecdoffoahkaa
open Go.RowKit Go.ChangeShapes Go.WideShapes Go.Deep Go.Silo

theorem readsB_ints : ReadsB Try.prog (slE false 3 intE) 52 (fun xs => xs.length * 8 ≤ reachBytes ∧ ∀ y ∈ xs, True) := reads_sliceB Try.underlying52 (by kernel_rfl) (by decide) 8 (by kernel_rfl) (reads_int Try.underlying3).any
theorem readsB_bools : ReadsB Try.prog (slE false 4 boolE) 30 (fun xs => xs.length * 1 ≤ reachBytes ∧ ∀ y ∈ xs, True) := reads_sliceB Try.underlying30 (by kernel_rfl) (by decide) 1 (by kernel_rfl) (reads_bool Try.underlying4).any
theorem readsB_intss : ReadsB Try.prog (slE false 52 (slE false 3 intE)) 60 (fun xs => xs.length * 24 ≤ reachBytes ∧ ∀ y ∈ xs, y.length * 8 ≤ reachBytes ∧ ∀ z ∈ y, True) := reads_sliceB Try.underlying60 (by kernel_rfl) (by decide) 24 (by kernel_rfl) readsB_ints

def ActB (a : ActD) : Prop := a.l.length * 8 ≤ reachBytes
set_option maxRecDepth 100000 in
theorem readsB_act : ReadsB Try.prog (actDE false) 114 ActB := by
  intro H enc w fuel cs x h hfz hw
  obtain ⟨xs, n, _, rfl, hl, hlen, hf⟩ := DataW.trod_struct Try.underlying114 h
  have hc : Try.prog.cellsOf 114 = 7 := by kernel_rfl
  have hi : Try.prog.cellsOf 3 = 1 := by kernel_rfl
  have hb : Try.prog.cellsOf 4 = 1 := by kernel_rfl
  have hs : Try.prog.cellsOf 112 = 2 := by kernel_rfl
  have hn : Try.prog.cellsOf 52 = 1 := by kernel_rfl
  rw [hc] at hl
  match cs, hl with
  | [c0, c1, c2, c3, c4, c5, c6], _ =>
  match xs, hlen with
  | [y0, y1, y2, y3, y4, y5], _ =>
  have h0 : DataW.trod enc Try.prog w 0 (fun _ => true) true n 3 (([c0, c1, c2, c3, c4, c5, c6].drop 0).take (Try.prog.cellsOf 3)) = some y0 := hf 0 _ rfl
  rw [hi] at h0
  have h1 : DataW.trod enc Try.prog w 0 (fun _ => true) true n 3 (([c0, c1, c2, c3, c4, c5, c6].drop 1).take (Try.prog.cellsOf 3)) = some y1 := hf 1 _ rfl
  rw [hi] at h1
  have h2 : DataW.trod enc Try.prog w 0 (fun _ => true) true n 3 (([c0, c1, c2, c3, c4, c5, c6].drop 2).take (Try.prog.cellsOf 3)) = some y2 := hf 2 _ rfl
  rw [hi] at h2
  have h3 : DataW.trod enc Try.prog w 0 (fun _ => true) true n 4 (([c0, c1, c2, c3, c4, c5, c6].drop 3).take (Try.prog.cellsOf 4)) = some y3 := hf 3 _ rfl
  rw [hb] at h3
  have h4 : DataW.trod enc Try.prog w 0 (fun _ => true) true n 112 (([c0, c1, c2, c3, c4, c5, c6].drop 4).take (Try.prog.cellsOf 112)) = some y4 := hf 4 _ rfl
  rw [hs] at h4
  have h5 : DataW.trod enc Try.prog w 0 (fun _ => true) true n 52 (([c0, c1, c2, c3, c4, c5, c6].drop 6).take (Try.prog.cellsOf 52)) = some y5 := hf 5 _ rfl
  rw [hn] at h5
  have hz : ∀ y ∈ [y0, y1, y2, y3, y4, y5], w.noneFrozen y.2 := fun y hy b o hm => hfz b o (List.mem_flatMap.2 ⟨y, hy, hm⟩)
  obtain ⟨a0, e0, i0⟩ := reads_int Try.underlying3 H enc w n _ _ h0 (hz _ (by simp))
  obtain ⟨a1, e1, i1⟩ := reads_int Try.underlying3 H enc w n _ _ h1 (hz _ (by simp))
  obtain ⟨a2, e2, i2⟩ := reads_int Try.underlying3 H enc w n _ _ h2 (hz _ (by simp))
  obtain ⟨a3, e3, _⟩ := reads_bool Try.underlying4 H enc w n _ _ h3 (hz _ (by simp))
  obtain ⟨a4, e4, i4⟩ := reads_slot H enc w n _ _ h4 (hz _ (by simp))
  have hw5 : ∀ k ∈ y5.1.weights Try.prog 52, k ≤ reachBytes := fun k hk => hw k (by
    simp only [DataW.weights, Try.underlying114]
    exact DataW.weights_mem_each (j := 5) (t := 52) (d := y5.1) rfl rfl k hk)
  obtain ⟨a5, ⟨A6, n6, c6', e5, i5⟩, i6, _⟩ := readsB_ints H enc w n _ _ h5 (hz _ (by simp)) hw5
  simp at e0 e1 e2 e3 e4 e5
  obtain ⟨e4, e4'⟩ := e4
  subst e0 e1 e2 e3 e4 e4' e5
  exact ⟨⟨a0, a1, a2, a3, a4.disk, a4.pos, a5⟩, ⟨A6, n6, c6', rfl, ⟨i0, i1, i2, i4.1, i4.2⟩, i5⟩, i6⟩
theorem readsB_acts : ReadsB Try.prog (slE false 114 (actDE false)) 105 (fun xs => xs.length * 72 ≤ reachBytes ∧ ∀ y ∈ xs, ActB y) := reads_sliceB Try.underlying105 (by kernel_rfl) (by decide) 72 (by kernel_rfl) readsB_act

/-- No list is longer than the reach. -/
def SlotsB (x : SlotsD) : Prop := x.live.length ≤ reachBytes ∧ x.free.length ≤ reachBytes ∧ ∀ l ∈ x.free, l.length ≤ reachBytes
set_option maxRecDepth 100000 in
theorem readsB_slots : ReadsB Try.prog (slotsDE false) 62 SlotsB := by
  intro H enc w fuel cs x h hfz hw
  obtain ⟨y0, y1, n, rfl, hl, h0, h1⟩ := trod_struct2 Try.underlying62 h
  have hc : Try.prog.cellsOf 62 = 2 := by kernel_rfl
  have hb : Try.prog.cellsOf 30 = 1 := by kernel_rfl
  have hi : Try.prog.cellsOf 60 = 1 := by kernel_rfl
  rw [hc] at hl
  match cs, hl with
  | [c0, c1], _ =>
  simp only [hb, hi] at h0 h1
  simp only [DataW.weights, Try.underlying62] at hw
  obtain ⟨a0, ⟨A0, n0, k0, e0, i0⟩, j0, _⟩ := readsB_bools H enc w n _ _ h0 (noneFrozen_left hfz) (fun k hk => hw k (DataW.weights_mem_each (j := 0) (t := 30) rfl rfl k hk))
  obtain ⟨a1, ⟨A1, n1, k1, e1, i1⟩, j1, j2⟩ := readsB_intss H enc w n _ _ h1 (noneFrozen_right hfz) (fun k hk => hw k (DataW.weights_mem_each (j := 1) (t := 60) rfl rfl k hk))
  simp at e0 e1
  subst e0 e1
  exact ⟨⟨a0, a1⟩, ⟨A0, n0, k0, A1, n1, k1, rfl, trivial, i0, i1⟩, by show a0.length ≤ _; omega, by show a1.length ≤ _; omega, fun l hl => by have := (j2 l hl).1; omega⟩

/-- A script, none of whose lists is longer than the reach. -/
def ScriptB (x : SlotsD) (l : List ActD) : Prop := SlotsB x ∧ l.length * 72 ≤ reachBytes ∧ ∀ a ∈ l, ActB a
set_option maxRecDepth 100000 in
theorem open_scriptB {H : Type} {enc : TypeId × Value → H} {w : World} {v : Value} {d : DataW H} {p : List MemPlace} {r : Reach} {b0 : Nat} (hv : Value.okWide Try.prog w r b0 107 v) (h : DataW.Trod enc Try.prog w 0 (fun _ => true) true 107 v d p) (hfz : w.noneFrozen p)
    (hw : ∀ k ∈ d.weights Try.prog 107, k ≤ reachBytes) :
    ∃ A0 n0 c0 A1 n1 c1 A2 n2 c2, ∃ x : SlotsD, ∃ l : List ActD, v = .agg #[.slice A0 n0 c0, .slice A1 n1 c1, .slice A2 n2 c2] ∧ Sl false 4 boolE w (fun b => b < w.heap.size) A0 n0 c0 x.live ∧ Sl false 52 (slE false 3 intE) w (fun b => b < w.heap.size) A1 n1 c1 x.free ∧
      Sl false 114 (actDE false) w (fun b => b < w.heap.size) A2 n2 c2 l ∧ ScriptB x l := by
  obtain ⟨cs, rfl, hsz⟩ := okWide_struct Try.underlying107 hv
  obtain ⟨fuel, hf⟩ := h
  have hcells : (Value.agg cs).cells.toList = cs.toList := rfl
  rw [hcells] at hf
  obtain ⟨y0, y1, n, e, hl, h0, h1⟩ := trod_struct2 Try.underlying107 hf
  injection e with e e'
  subst e e'
  have hc : Try.prog.cellsOf 107 = 3 := by kernel_rfl
  have hs : Try.prog.cellsOf 62 = 2 := by kernel_rfl
  have ha : Try.prog.cellsOf 105 = 1 := by kernel_rfl
  obtain ⟨cs⟩ := cs
  rw [hc] at hl
  match cs, hl with
  | [v0, v1, v2], _ =>
  simp only [hs, ha] at h0 h1
  simp only [DataW.weights, Try.underlying107] at hw
  obtain ⟨x, ⟨A0, n0, c0, A1, n1, c1, e0, _, i0, i1⟩, j0⟩ := readsB_slots H enc w n _ _ h0 (noneFrozen_left hfz) (fun k hk => hw k (DataW.weights_mem_each (j := 0) (t := 62) rfl rfl k hk))
  obtain ⟨l, ⟨A2, n2, c2, e2, i2⟩, j1, j2⟩ := readsB_acts H enc w n _ _ h1 (noneFrozen_right hfz) (fun k hk => hw k (DataW.weights_mem_each (j := 1) (t := 105) rfl rfl k hk))
  simp at e0 e2
  obtain ⟨e0, e1⟩ := e0
  subst e0 e1 e2
  exact ⟨A0, n0, c0, A1, n1, c1, A2, n2, c2, x, l, rfl, i0, i1, i2, j0, j1, j2⟩
end Go.Proofs.Ytjeecdoffoahkaa
