/- As L0 and L1, where each slice that is read is bounded by the reach: how long the lists are. -/
import Derived.Test.YtjeecdoffoahkaaDatar
import Derived.Deep.Slices
import Derived.ProofKit
import Derived.Carry
import Derived.Below
import Derived.ChangeSame
import Derived.Test.YtjeecdoffoahkaaProg
import Derived.SizedLaws
-- from L1
-- from L0
namespace Go.Silo
open Go.RowKit Go.ChangeShapes Go.WideShapes Go.Deep

/-- What the rows read as data of type t reads as E, all of it in blocks that are there. -/
def Reads {α : Type} (P : Program) (E : Enc α) (t : TypeId) : Prop :=
  ∀ (H : Type) (enc : TypeId × Value → H) (w : World) (fuel : Nat) (cs : List Value) (x : DataW H × List MemPlace),
    DataW.trod enc P w 0 (fun _ => true) true fuel t cs = some x → w.noneFrozen x.2 → ∃ a, E.R w (fun b => b < w.heap.size) cs a

theorem noneFrozen_left {w : World} {p q : List MemPlace} (h : w.noneFrozen (p ++ q)) : w.noneFrozen p := fun b o hm => h b o (List.mem_append_left _ hm)
theorem noneFrozen_right {w : World} {p q : List MemPlace} (h : w.noneFrozen (p ++ q)) : w.noneFrozen q := fun b o hm => h b o (List.mem_append_right _ hm)

theorem reads_int {P : Program} {t : TypeId} (ht : P.underlying t = some (.int .i64)) : Reads P intE t := by
  intro H enc w fuel cs x h _
  obtain ⟨n, rfl, _, hw⟩ := DataW.trod_int ht h
  refine ⟨n, rfl, ?_⟩
  simp [Lit.wf, IntKind.min, IntKind.max, IntKind.signed, IntKind.bits] at hw
  exact ⟨by omega, by omega⟩
theorem reads_bool {P : Program} {t : TypeId} (ht : P.underlying t = some .bool) : Reads P boolE t := by
  intro H enc w fuel cs x h _
  obtain ⟨b, rfl, _⟩ := DataW.trod_bool ht h
  exact ⟨b, rfl, trivial⟩

theorem list_of {α : Type} {p : Nat → α → Prop} : ∀ n : Nat, (∀ i, i < n → ∃ x, p i x) → ∃ xs : List α, xs.length = n ∧ ∀ k x, xs[k]? = some x → p k x
  | 0, _ => ⟨[], rfl, fun k x h => by simp at h⟩
  | n + 1, h => by
    obtain ⟨xs, hl, hx⟩ := list_of n (fun i hi => h i (by omega))
    obtain ⟨y, hy⟩ := h n (by omega)
    refine ⟨xs ++ [y], by simp [hl], fun k x hk => ?_⟩
    rcases Nat.lt_or_ge k n with hk' | hk'
    · rw [List.getElem?_append_left (by omega)] at hk
      exact hx k x hk
    · rw [List.getElem?_append_right (by omega), hl] at hk
      have : k - n = 0 := by
        rcases Nat.eq_zero_or_pos (k - n) with h0 | h0
        · exact h0
        · rw [List.getElem?_eq_none (by simp; omega)] at hk; cases hk
      rw [this] at hk
      injection hk with hk
      subst hk
      rw [show k = n by omega]; exact hy

end Go.Silo
namespace Go.Proofs.Ytjeecdoffoahkaa
open Go.RowKit Go.ChangeShapes Go.WideShapes Go.Deep Go.Silo

set_option maxRecDepth 100000 in
theorem reads_slot : Reads Try.prog slotE 112 := by
  intro H enc w fuel cs x h hfz
  obtain ⟨y0, y1, n, rfl, hl, h0, h1⟩ := trod_struct2 Try.underlying112 h
  have hc : Try.prog.cellsOf 112 = 2 := by kernel_rfl
  have hi : Try.prog.cellsOf 3 = 1 := by kernel_rfl
  rw [hc] at hl
  match cs, hl with
  | [c0, c1], _ =>
  simp only [hi] at h0 h1
  obtain ⟨a0, e0, i0⟩ := reads_int Try.underlying3 H enc w n _ _ h0 (noneFrozen_left hfz)
  obtain ⟨a1, e1, i1⟩ := reads_int Try.underlying3 H enc w n _ _ h1 (noneFrozen_right hfz)
  simp at e0 e1
  subst e0 e1
  exact ⟨⟨a0, a1⟩, rfl, i0, i1⟩
/-- The row's last step: nothing of old is turned. -/
theorem law_post {H : Type} {enc : TypeId × Value → H} {P : Program} {f : Func} {s : ChangeSpec} {W W' : World} {args : Array Value} {v : Value} {ds gs : List (DataW H)} {before pa pv : List MemPlace}
    (hW : DataW.Whole enc P f.params.toList s.vars false W args.toList ds gs before) (hres : DataW.TrodAll enc P W' W.heap.size (fun _ => false) false f.resultTypes.toList (v.resultList f.resultTypes.size) (s.fn H (ds ++ gs)).results [])
    (hargs : DataW.TrodAll enc P W' 0 (fun b => decide (b < W.heap.size)) true f.params.toList args.toList (s.fn H (ds ++ gs)).args pa) (hvars : DataW.TrodVars enc P W' (fun b => decide (b < W.heap.size)) s.vars (s.fn H (ds ++ gs)).vars pv)
    (hb : Below W.heap.size W W') : s.post enc P f false true false false W args v W' :=
  ⟨ds, gs, before, [], pa, pv, hW, hres, hargs, hvars, hb.frame _, fun h => by cases h⟩
end Go.Proofs.Ytjeecdoffoahkaa
namespace Go.Silo
open Go.RowKit Go.ChangeShapes Go.WideShapes Go.Deep

/-- As 'Reads'; and B is true of what is read, where no slice outweighs the reach. -/
def ReadsB {α : Type} (P : Program) (E : Enc α) (t : TypeId) (B : α → Prop) : Prop :=
  ∀ (H : Type) (enc : TypeId × Value → H) (w : World) (fuel : Nat) (cs : List Value) (x : DataW H × List MemPlace),
    DataW.trod enc P w 0 (fun _ => true) true fuel t cs = some x → w.noneFrozen x.2 → (∀ n ∈ x.1.weights P t, n ≤ reachBytes) → ∃ a, E.R w (fun b => b < w.heap.size) cs a ∧ B a
theorem Reads.any {α : Type} {P : Program} {E : Enc α} {t : TypeId} (h : Reads P E t) : ReadsB P E t (fun _ => True) := by
  intro H enc w fuel cs x h1 h2 _
  obtain ⟨a, ha⟩ := h H enc w fuel cs x h1 h2
  exact ⟨a, ha, trivial⟩

theorem weightsAll_mem {H : Type} {P : Program} {e : TypeId} {d : DataW H} : ∀ {ds : List (DataW H)}, d ∈ ds → ∀ n ∈ d.weights P e, n ∈ DataW.weightsAll P e ds
  | [], h => by cases h
  | d0 :: ds, h => by
    intro n hn
    unfold DataW.weightsAll
    rcases List.mem_cons.1 h with rfl | h
    · exact List.mem_append_left _ hn
    · exact List.mem_append_right _ (weightsAll_mem h n hn)

theorem reads_sliceB {α : Type} {P : Program} {E : Enc α} {t e T : TypeId} {B : α → Prop} (ht : P.underlying t = some (.slice e)) (hc : P.cellsOf e = E.sz) (hpos : 0 < E.sz) (K : Nat) (hbytes : P.bytesOf e = K) (hE : ReadsB P E e B) :
    ReadsB P (slE false T E) t (fun xs => xs.length * K ≤ reachBytes ∧ ∀ y ∈ xs, B y) := by
  intro H enc w fuel cs x h hfz hw
  rcases open_slice ht h with ⟨rfl, rfl⟩ | ⟨a, len, cap, m, n, D, Pl, rfl, _, hl, hm, hmm, rfl, hi⟩
  · exact ⟨[], ⟨none, 0, 0, rfl, Sl.nil_ (by omega)⟩, by simp, fun y hy => by cases hy⟩
  · simp only [if_true] at hmm
    subst hmm
    rw [hc] at hi hfz
    simp only [DataW.weights, ht, hbytes] at hw
    have hlen : len * K ≤ reachBytes := by
      have h1 := hw _ (List.mem_cons_self ..)
      simp only [List.length_map, List.length_range] at h1
      exact Nat.le_trans (Nat.mul_le_mul_right _ (by omega)) h1
    have hel : ∀ i, i < len → ∃ y, B y ∧ ∃ vs, E.R w (fun b => b < w.heap.size) vs y ∧ w.cells? 0 (a.add (i * E.sz)) E.sz = some vs := by
      intro i hil
      obtain ⟨cs', h1, h2⟩ := hi i (by omega)
      obtain ⟨y, hy, hB⟩ := hE H enc w n cs' _ h2 (fun b o hm' => hfz b o (List.mem_append_right _ (List.mem_flatMap.2 ⟨i, List.mem_range.2 (by omega), hm'⟩)))
        (fun k hk => hw k (List.mem_cons_of_mem _ (List.mem_append_left _ (weightsAll_mem (List.mem_map.2 ⟨i, List.mem_range.2 hil, rfl⟩) k hk))))
      exact ⟨y, hB, cs', hy, h1⟩
    obtain ⟨xs, hxl, hx⟩ := list_of len hel
    refine ⟨xs, ⟨some a, len, _, rfl, hxl, hl, hm, fun h0 => ?_⟩, by rw [hxl]; exact hlen, fun y hy => ?_⟩
    · obtain ⟨_, vs0, hv0, hc0⟩ := hx 0 _ (List.getElem?_eq_getElem (by omega))
      obtain ⟨_, hl0, hat0⟩ := World.cells?_some hc0
      have hfirst : w.cell? a = some (vs0[0]'(by omega)) := by
        have := hat0 0 hpos
        rw [Nat.zero_mul] at this
        rw [List.getElem?_eq_getElem (by omega)] at this
        simpa [Addr.add] using this
      obtain ⟨ab, ao, asp⟩ := a
      obtain rfl : asp = none := World.cell?_spot hfirst
      refine ⟨ab, ao, rfl, World.block_lt_of_cell? w _ hfirst, World.block_lt_of_cell? w _ hfirst, (fun h => by cases h), fun k y hk => ?_⟩
      obtain ⟨_, vs, hv, hck⟩ := hx k y hk
      have hkl : k < len := by have := (List.getElem?_eq_some_iff.1 hk).1; omega
      obtain ⟨_, hlv, hat⟩ := World.cells?_some hck
      refine ⟨vs, hv, fun j v hj => ?_⟩
      have hjl : j < E.sz := by have := (List.getElem?_eq_some_iff.1 hj).1; omega
      have hadd : ∀ m, (⟨ab, ao, none⟩ : Addr).add m = ⟨ab, ao + m, none⟩ := by
        intro m
        unfold Addr.add
        split
        · rename_i h; rw [h]; rfl
        · rfl
      have h1 := hat j hjl
      rw [Go.Deep.add_add, hadd, hj, ← Nat.add_assoc] at h1
      refine ⟨h1, hfz ab _ (List.mem_append_left _ ?_)⟩
      unfold MemPlace.row
      refine List.mem_map.2 ⟨k * E.sz + j, List.mem_range.2 ?_, by simp [Nat.add_assoc]⟩
      have h2 : (k + 1) * E.sz ≤ m * E.sz := Nat.mul_le_mul_right _ (by omega)
      rw [Nat.succ_mul] at h2
      omega
    · obtain ⟨k, hk⟩ := List.mem_iff_getElem?.1 hy
      exact (hx k y hk).1
end Go.Silo

namespace Go.Proofs.Ytjeecdoffoahkaa
open Go.RowKit Go.ChangeShapes Go.WideShapes Go.Deep Go.Silo

theorem readsB_ints : ReadsB Try.prog (slE false 3 intE) 52 (fun xs => xs.length * 8 ≤ reachBytes ∧ ∀ y ∈ xs, True) := reads_sliceB Try.underlying52 (by kernel_rfl) (by decide) 8 (by kernel_rfl) (reads_int Try.underlying3).any
theorem readsB_bools : ReadsB Try.prog (slE false 4 boolE) 30 (fun xs => xs.length * 1 ≤ reachBytes ∧ ∀ y ∈ xs, True) := reads_sliceB Try.underlying30 (by kernel_rfl) (by decide) 1 (by kernel_rfl) (reads_bool Try.underlying4).any
end Go.Proofs.Ytjeecdoffoahkaa
