/- What Give answers, in plain; rows of which one element is stored anew. -/
import Derived.Test.YtfccghfcilccfaaT5
namespace Go.Proofs.Ytfccghfcilccfaa
open Go.RowKit Go.Silo

theorem _root_.Go.Silo.Sl.at1 {α : Type} {tg : Bool} {T : TypeId} {E : Enc α} {w : World} {S : Nat → Prop} {A : Option Addr} {n c : Nat} {xs : List α} (h : Sl tg T E w S A n c xs) (hsz : E.sz = 1) {k : Nat} (hk : k < n) {x : α} (hx : xs[k]? = some x) :
    ∃ b off v, A = some ⟨b, off, none⟩ ∧ S b ∧ b < w.heap.size ∧ E.R w S [v] x ∧ w.cell? ⟨b, off + k, none⟩ = some v ∧ w.frozen? ⟨b, off + k, none⟩ = false := by
  obtain ⟨h1, _, _, h4⟩ := h
  obtain ⟨b, off, e, hb, hlt, _, hc⟩ := h4 (by omega)
  obtain ⟨vs, hv, hcc⟩ := hc k x hx
  have hl := E.len hv
  rw [hsz] at hl
  obtain ⟨v, rfl⟩ : ∃ v, vs = [v] := by
    match vs, hl with
    | [v], _ => exact ⟨v, rfl⟩
  have := hcc 0 v rfl
  rw [hsz, Nat.mul_one, Nat.add_zero] at this
  exact ⟨b, off, v, e, hb, hlt, hv, this.1, this.2⟩

/-- One element is stored anew, and the others are read otherwise. -/
theorem _root_.Go.Silo.Sl.redo {α β : Type} {T : TypeId} {E : Enc α} {F : Enc β} {w w5 : World} {S S' : Nat → Prop} {b off n c d : Nat} {ys : List α} {zs : List β} {nv : Value} (h : Sl true T E w S (some ⟨b, off, none⟩) n c ys) (hE : E.sz = 1) (hF : F.sz = 1) (hd : d < n)
    (hbb : w5.heap[b]? = w.heap[b]?) (hsz : w.heap.size ≤ w5.heap.size) (hS' : S' b) (hl : zs.length = n) {z : β} (hz : zs[d]? = some z) (hdz : F.R (w5.setCell ⟨b, off + d, none⟩ nv) S' [nv] z)
    (hx : ∀ k y z v, k ≠ d → ys[k]? = some y → zs[k]? = some z → E.R w S [v] y → F.R (w5.setCell ⟨b, off + d, none⟩ nv) S' [v] z) :
    Sl true T F (w5.setCell ⟨b, off + d, none⟩ nv) S' (some ⟨b, off, none⟩) n c zs := by
  have hyl := h.len
  obtain ⟨b', off', e, hb, hlt, ht, hc⟩ := h.2.2.2 (by omega)
  injection e with e; injection e with e1 e2 _; subst e1; subst e2
  obtain ⟨q, hq⟩ := ht rfl
  refine ⟨hl, h.le, h.cap, fun _ => ⟨b, off, rfl, hS', by rw [World.size_setCell]; omega, fun _ => ⟨q, by rw [shape_setCell, shape_of_block hbb]; exact hq⟩, fun k z' hk => ?_⟩⟩
  have hkl := (List.getElem?_eq_some_iff.1 hk).1
  rw [hF]
  by_cases hkd : k = d
  · subst hkd
    rw [hk] at hz
    injection hz with hz; subst hz
    refine ⟨[nv], hdz, fun i u hi => ?_⟩
    match i, hi with
    | 0, hi =>
      simp at hi; subst hi
      obtain ⟨y, hy⟩ : ∃ y, ys[k]? = some y := ⟨_, List.getElem?_eq_getElem (by omega)⟩
      obtain ⟨b2, off2, v, e, _, _, _, hcell, hfr⟩ := h.at1 hE hd hy
      injection e with e; injection e with e1 e2 _; subst e1; subst e2
      rw [Nat.mul_one, Nat.add_zero]
      exact ⟨World.cell?_setCell_same _ _ _ ((World.cell?_of_block (a := ⟨b, off + k, none⟩) hbb).trans hcell), by rw [World.frozen?_setCell]; exact (World.frozen?_of_block (a := ⟨b, off + k, none⟩) hbb).trans hfr⟩
  · obtain ⟨y, hy⟩ : ∃ y, ys[k]? = some y := ⟨_, List.getElem?_eq_getElem (by omega)⟩
    obtain ⟨b2, off2, v, e, _, _, hR, hcell, hfr⟩ := h.at1 hE (by omega) hy
    injection e with e; injection e with e1 e2 _; subst e1; subst e2
    refine ⟨[v], hx k y z' v hkd hy hk hR, fun i u hi => ?_⟩
    match i, hi with
    | 0, hi =>
      simp at hi; subst hi
      rw [Nat.mul_one, Nat.add_zero]
      exact ⟨by rw [World.cell?_setCell_other _ _ _ _ (by simp <;> omega)]; exact (World.cell?_of_block (a := ⟨b, off + k, none⟩) hbb).trans hcell, by rw [World.frozen?_setCell]; exact (World.frozen?_of_block (a := ⟨b, off + k, none⟩) hbb).trans hfr⟩

theorem _root_.Go.Silo.Own.block_some {α : Type} {T : TypeId} {E : Enc α} {w : World} {base : Nat} {S : Nat → Prop} {A : Option Addr} {n c : Nat} {xs : List α} (h : Own T E w base S A n c xs) {p : Addr} (hA : A = some p) : ∃ cur, w.heap[p.block]? = some (.cells cur T (0, 0)) := by
  obtain ⟨cells, ho, _, _⟩ := h
  rcases ho.2 with ⟨hv', h0⟩ | ⟨g, cap, cur, hv', hb, hh, _, _, hcs, _⟩
  · injection hv' with h1 h2 h3; rw [hA] at h1; cases h1
  · injection hv' with h1 h2 h3; rw [hA] at h1; injection h1 with h1; subst h1; exact ⟨cur, hh⟩
theorem alloc3 (w : World) (o0 : Obj) (c1 c2 : Array Value) (T1 T2 : TypeId) :
    (((w.alloc o0).alloc (.cells c1 T1)).alloc (.cells c2 T2)).heap[w.heap.size + 1]? = some (.cells c1 T1 (0, 0)) ∧ (((w.alloc o0).alloc (.cells c1 T1)).alloc (.cells c2 T2)).heap[w.heap.size + 1 + 1]? = some (.cells c2 T2 (0, 0)) := by
  have e1 : (w.alloc o0).heap.size = w.heap.size + 1 := by simp
  have e2 : ((w.alloc o0).alloc (.cells c1 T1)).heap.size = w.heap.size + 1 + 1 := by simp
  refine ⟨?_, ?_⟩
  · rw [Below.heap_alloc _ _ _ (by omega), ← e1]; exact heap_alloc_new _ _
  · rw [← e2]; exact heap_alloc_new _ _

theorem rising_lt {l : List Int} (h : Rising l) : l.Pairwise (· < ·) := by
  have key : ∀ j, j < l.length → ∀ i, i < j → l.getD i 0 < l.getD j 0 := by
    intro j
    induction j with
    | zero => intro _ i hi; omega
    | succ j ih =>
      intro hj i hi
      have h2 := (h (j + 1) hj).2.2 (by omega)
      simp only [Nat.add_sub_cancel] at h2
      rcases Nat.lt_or_ge i j with h3 | h3
      · have := ih (by omega) i h3; omega
      · obtain rfl : i = j := by omega
        exact h2
  rw [List.pairwise_iff_getElem]
  intro i j hi hj hij
  have := key j hj i hij
  simpa [List.getD_eq_getElem?_getD, hi, hj] using this

def giveX (x : SlotsD) (d : Nat) (a : Int) : SlotsD := ⟨x.live, x.free.set d (insAt ((x.free.getD d []).countP (· < a)) a (x.free.getD d []))⟩
/-- What Give answers. -/
noncomputable def giveR (x : SlotsD) (d a : Int) : SlotsD × Int :=
  if slotsOkB x = true ∧ 0 ≤ d ∧ d < x.live.length ∧ 0 ≤ a ∧ a < 64 then (if (x.free.getD d.toNat []).contains a = true then (⟨[], []⟩, 4) else (giveX x d.toNat a, 0)) else (⟨[], []⟩, 1)
theorem giveR_bad {x : SlotsD} {d a : Int} (h : ¬ (slotsOkB x = true ∧ 0 ≤ d ∧ d < x.live.length ∧ 0 ≤ a ∧ a < 64)) : giveR x d a = (⟨[], []⟩, 1) := by unfold giveR; rw [if_neg h]
theorem giveR_there {x : SlotsD} {d a : Int} (h : slotsOkB x = true ∧ 0 ≤ d ∧ d < x.live.length ∧ 0 ≤ a ∧ a < 64) (hc : (x.free.getD d.toNat []).contains a = true) : giveR x d a = (⟨[], []⟩, 4) := by unfold giveR; rw [if_pos h, if_pos hc]
theorem giveR_ok {x : SlotsD} {d a : Int} (h : slotsOkB x = true ∧ 0 ≤ d ∧ d < x.live.length ∧ 0 ≤ a ∧ a < 64) (hc : ¬ (x.free.getD d.toNat []).contains a = true) : giveR x d a = (giveX x d.toNat a, 0) := by unfold giveR; rw [if_pos h, if_neg hc]

end Go.Proofs.Ytfccghfcilccfaa
