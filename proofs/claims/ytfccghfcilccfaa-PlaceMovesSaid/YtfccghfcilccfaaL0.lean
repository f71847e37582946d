/- From the rows' reading of an argument to lists of data. -/
import Derived.Test.YtfccghfcilccfaaData
import Derived.Deep.Slices
import Derived.ProofKit
import Derived.Carry
import Derived.Below
import Derived.ChangeSame
namespace Go.Silo
open Go.RowKit Go.ChangeShapes Go.WideShapes Go.Deep

/-- What the rows read as data of type t reads as E, all of it in blocks that are there. -/
def Reads {α : Type} (P : Program) (E : Enc α) (t : TypeId) : Prop :=
  ∀ (H : Type) (enc : TypeId × Value → H) (w : World) (fuel : Nat) (cs : List Value) (x : DataW H × List MemPlace),
    DataW.trod enc P w 0 (fun _ => true) true fuel t cs = some x → w.noneFrozen x.2 → ∃ a, E.R w (fun b => b < w.heap.size) cs a

theorem noneFrozen_left {w : World} {p q : List MemPlace} (h : w.noneFrozen (p ++ q)) : w.noneFrozen p := fun b o hm => h b o (List.mem_append_left _ hm)
theorem noneFrozen_right {w : World} {p q : List MemPlace} (h : w.noneFrozen (p ++ q)) : w.noneFrozen q := fun b o hm => h b o (List.mem_append_right _ hm)

theorem reads_int {P : Program} {t : TypeId} (ht : P.underlying t = some (.int .i64)) : Reads P intE t := by
  intro H enc w fuel cs x h _
  obtain ⟨n, rfl, _, hw⟩ := DataW.trod_int ht h
  refine ⟨n, rfl, ?_⟩
  simp [Lit.wf, IntKind.min, IntKind.max, IntKind.signed, IntKind.bits] at hw
  exact ⟨by omega, by omega⟩
theorem reads_bool {P : Program} {t : TypeId} (ht : P.underlying t = some .bool) : Reads P boolE t := by
  intro H enc w fuel cs x h _
  obtain ⟨b, rfl, _⟩ := DataW.trod_bool ht h
  exact ⟨b, rfl, trivial⟩

theorem list_of {α : Type} {p : Nat → α → Prop} : ∀ n : Nat, (∀ i, i < n → ∃ x, p i x) → ∃ xs : List α, xs.length = n ∧ ∀ k x, xs[k]? = some x → p k x
  | 0, _ => ⟨[], rfl, fun k x h => by simp at h⟩
  | n + 1, h => by
    obtain ⟨xs, hl, hx⟩ := list_of n (fun i hi => h i (by omega))
    obtain ⟨y, hy⟩ := h n (by omega)
    refine ⟨xs ++ [y], by simp [hl], fun k x hk => ?_⟩
    rcases Nat.lt_or_ge k n with hk' | hk'
    · rw [List.getElem?_append_left (by omega)] at hk
      exact hx k x hk
    · rw [List.getElem?_append_right (by omega), hl] at hk
      have : k - n = 0 := by
        rcases Nat.eq_zero_or_pos (k - n) with h0 | h0
        · exact h0
        · rw [List.getElem?_eq_none (by simp; omega)] at hk; cases hk
      rw [this] at hk
      injection hk with hk
      subst hk
      rw [show k = n by omega]; exact hy

theorem reads_slice {α : Type} {P : Program} {E : Enc α} {t e T : TypeId} (ht : P.underlying t = some (.slice e)) (hc : P.cellsOf e = E.sz) (hpos : 0 < E.sz) (hE : Reads P E e) : Reads P (slE false T E) t := by
  intro H enc w fuel cs x h hfz
  rcases open_slice ht h with ⟨rfl, rfl⟩ | ⟨a, len, cap, m, n, D, Pl, rfl, _, hl, hm, hmm, rfl, hi⟩
  · exact ⟨[], none, 0, 0, rfl, Sl.nil_ (by omega)⟩
  · simp only [if_true] at hmm
    subst hmm
    rw [hc] at hi hfz
    have hel : ∀ i, i < len → ∃ y, ∃ vs, E.R w (fun b => b < w.heap.size) vs y ∧ w.cells? 0 (a.add (i * E.sz)) E.sz = some vs := by
      intro i hil
      obtain ⟨cs', h1, h2⟩ := hi i (by omega)
      obtain ⟨y, hy⟩ := hE H enc w n cs' _ h2 (fun b o hm' => hfz b o (List.mem_append_right _ (List.mem_flatMap.2 ⟨i, List.mem_range.2 (by omega), hm'⟩)))
      exact ⟨y, cs', hy, h1⟩
    obtain ⟨xs, hxl, hx⟩ := list_of len hel
    refine ⟨xs, some a, len, _, rfl, hxl, hl, hm, fun h0 => ?_⟩
    obtain ⟨vs0, hv0, hc0⟩ := hx 0 _ (List.getElem?_eq_getElem (by omega))
    obtain ⟨_, hl0, hat0⟩ := World.cells?_some hc0
    have hfirst : w.cell? a = some (vs0[0]'(by omega)) := by
      have := hat0 0 hpos
      rw [Nat.zero_mul] at this
      rw [List.getElem?_eq_getElem (by omega)] at this
      simpa [Addr.add] using this
    obtain ⟨ab, ao, asp⟩ := a
    obtain rfl : asp = none := World.cell?_spot hfirst
    refine ⟨ab, ao, rfl, World.block_lt_of_cell? w _ hfirst, World.block_lt_of_cell? w _ hfirst, (fun h => by cases h), fun k y hk => ?_⟩
    obtain ⟨vs, hv, hck⟩ := hx k y hk
    have hkl : k < len := by have := (List.getElem?_eq_some_iff.1 hk).1; omega
    obtain ⟨_, hlv, hat⟩ := World.cells?_some hck
    refine ⟨vs, hv, fun j v hj => ?_⟩
    have hjl : j < E.sz := by have := (List.getElem?_eq_some_iff.1 hj).1; omega
    have hadd : ∀ m, (⟨ab, ao, none⟩ : Addr).add m = ⟨ab, ao + m, none⟩ := by
      intro m
      unfold Addr.add
      split
      · rename_i h; rw [h]; rfl
      · rfl
    have h1 := hat j hjl
    rw [Go.Deep.add_add, hadd, hj, ← Nat.add_assoc] at h1
    refine ⟨h1, hfz ab _ (List.mem_append_left _ ?_)⟩
    unfold MemPlace.row
    refine List.mem_map.2 ⟨k * E.sz + j, List.mem_range.2 ?_, by simp [Nat.add_assoc]⟩
    have h2 : (k + 1) * E.sz ≤ m * E.sz := Nat.mul_le_mul_right _ (by omega)
    rw [Nat.succ_mul] at h2
    omega
end Go.Silo
