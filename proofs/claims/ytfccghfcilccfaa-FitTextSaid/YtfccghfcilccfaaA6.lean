/- What the page's Take keeps from round to round. -/
import Derived.Test.YtfccghfcilccfaaA5
import Derived.Test.YtfccghfcilccfaaP3
namespace Go.Proofs.Ytfccghfcilccfaa
open Go.RowKit Go.Silo

theorem tookX_succ {x : SlotsD} {n : Nat} {not : List Int} {j : Nat} {d : Nat} (h : (chosen x n not)[j]? = some (d : Int)) : (tookX x n not (j + 1)).free = (tookX x n not j).free.set d (x.free.getD d []).tail := by
  have h1 : (chosen x n not).take (j + 1) = (chosen x n not).take j ++ [(d : Int)] := by
    obtain ⟨hl, he⟩ := List.getElem?_eq_some_iff.1 h
    rw [List.take_succ_eq_append_getElem hl, he]
  unfold tookX
  rw [h1, List.foldl_append, List.foldl_cons, List.foldl_nil]
  have h2 := tails_at h
  generalize ((chosen x n not).take j).foldl tailAt x.free = F at *
  show F.set d (F.getD d []).tail = F.set d _
  rw [show F.getD d [] = x.free.getD d [] from h2]

/-- The used disks, the slots taken, and what is free, between the rounds: ju disks are used, jl slots are listed, of jf disks a slot is gone. -/
structure TI (w : World) (hi : Nat) (x : SlotsD) (n : Nat) (not : List Int) (A3 : Option Addr) (c3 : Nat) (A4 : Option Addr) (n4 c4 n2 ju jl jf : Nat) (A5 : Option Addr) (c5 : Nat) (A6 : Option Addr) (c6 : Nat) (V : World) : Prop where
  used : Own 3 intE V hi (fun _ => False) A5 (n2 + ju) c5 (not ++ (chosen x n not).take ju)
  list : Own 104 slotE V hi (fun _ => False) A6 jl c6 (((chosen x n not).take jl).map (slotOf x))
  free : ∃ Sf : Nat → Prop, Sl true 52 (slE true 3 intE) V Sf A4 n4 c4 (tookX x n not jf).free ∧ ∀ b, Sf b → w.heap.size + 2 ≤ b ∧ b < V.heap.size ∧ some b ≠ ablk A5 ∧ some b ≠ ablk A6
  live : Sl true 4 boolE V (fun b => w.heap.size + 2 ≤ b ∧ b < hi) A3 n4 c3 x.live
  box : V.heap[w.heap.size]? = some (.cells #[.slice A3 n4 c3, .slice A4 n4 c4] 62 (0, 0))
  res : V.heap[w.heap.size + 1]? = some (.cells #[.slice none 0 0, .slice none 0 0] 62 (0, 0))
  below : Below w.heap.size w V
  size : hi ≤ V.heap.size
  lo : w.heap.size + 2 ≤ hi
  apart : ∀ b, ablk A5 = some b → ablk A6 ≠ some b

section
variable {w : World} {hi : Nat} {x : SlotsD} {n : Nat} {not : List Int} {A3 : Option Addr} {c3 : Nat} {A4 : Option Addr} {n4 c4 n2 ju jl jf : Nat} {A5 : Option Addr} {c5 : Nat} {A6 : Option Addr} {c6 : Nat} {V V' : World}
theorem TI.all (h : TI w hi x n not A3 c3 A4 n4 c4 n2 ju jl jf A5 c5 A6 c6 V) (hb : Below V.heap.size V V') : TI w hi x n not A3 c3 A4 n4 c4 n2 ju jl jf A5 c5 A6 c6 V' := by
  have s := hb.size
  have s1 := h.size
  have s2 := h.lo
  obtain ⟨Sf, f1, f2⟩ := h.free
  exact ⟨h.used.all hb, h.list.all hb, ⟨Sf, f1.all hb, fun b hs => by have := f2 b hs; exact ⟨this.1, by omega, this.2.2⟩⟩, h.live.all hb, (hb.block _ (by omega)).trans h.box, (hb.block _ (by omega)).trans h.res, h.below.trans (hb.mono (by omega)), by omega, h.lo, h.apart⟩
theorem TI.used1 {A7 : Option Addr} {c7 : Nat} (h : TI w hi x n not A3 c3 A4 n4 c4 n2 ju jl jf A5 c5 A6 c6 V) {d : Int} (hd : (chosen x n not)[ju]? = some d) (ho : Own 3 intE V' hi (fun _ => False) A7 (n2 + ju + 1) c7 (not ++ (chosen x n not).take ju ++ [d]))
    (hg : V.grownBy V' (ablk A5)) (hat : ablk A7 = ablk A5 ∨ ablk A7 = some V.heap.size) : TI w hi x n not A3 c3 A4 n4 c4 n2 (ju + 1) jl jf A7 c7 A6 c6 V' := by
  have s := hg.size
  have s1 := h.size
  have s2 := h.lo
  obtain ⟨Sf, f1, f2⟩ := h.free
  have hn : ∀ b, b < hi → some b ≠ ablk A5 := fun b hb e => by have := (h.used.lt b e.symm).1; omega
  have e1 : (chosen x n not).take (ju + 1) = (chosen x n not).take ju ++ [d] := by
    obtain ⟨hl, he⟩ := List.getElem?_eq_some_iff.1 hd
    rw [List.take_succ_eq_append_getElem hl, he]
  refine ⟨by rw [e1, ← List.append_assoc]; exact ho, h.list.frame (fun b hb hlt => hg.block b hlt (fun e => ?_)) s, ⟨Sf, f1.frame (fun b hb hlt => hg.block b hlt (f2 b hb).2.2.1) s, fun b hs => ?_⟩, h.live.frame (fun b hb hlt => hg.block b hlt (hn b hb.2)) s, (hg.block _ (by omega) (hn _ (by omega))).trans h.box, (hg.block _ (by omega) (hn _ (by omega))).trans h.res,
    h.below.grown hg (by omega) (fun r hr => by have := (h.used.lt r hr).1; omega), by omega, h.lo, fun b hb => ?_⟩
  · rcases hb with hb | hb
    · exact hb
    · exact h.apart b e.symm hb.symm
  · have := f2 b hs
    refine ⟨this.1, by omega, ?_, this.2.2.2⟩
    rcases hat with e | e
    · rw [e]; exact this.2.2.1
    · rw [e]; intro e2; injection e2 with e2; omega
  · rcases hat with e | e
    · exact h.apart b (e.symm.trans hb)
    · intro e2
      have := (h.list.lt b e2).2
      rw [e] at hb; injection hb with hb; omega
theorem TI.list1 {A7 : Option Addr} {c7 : Nat} (h : TI w hi x n not A3 c3 A4 n4 c4 n2 ju jl jf A5 c5 A6 c6 V) {d : Int} (hd : (chosen x n not)[jl]? = some d) (ho : Own 104 slotE V' hi (fun _ => False) A7 (jl + 1) c7 (((chosen x n not).take jl).map (slotOf x) ++ [slotOf x d]))
    (hg : V.grownBy V' (ablk A6)) (hat : ablk A7 = ablk A6 ∨ ablk A7 = some V.heap.size) : TI w hi x n not A3 c3 A4 n4 c4 n2 ju (jl + 1) jf A5 c5 A7 c7 V' := by
  have s := hg.size
  have s1 := h.size
  have s2 := h.lo
  obtain ⟨Sf, f1, f2⟩ := h.free
  have hn : ∀ b, b < hi → some b ≠ ablk A6 := fun b hb e => by have := (h.list.lt b e.symm).1; omega
  have e1 : ((chosen x n not).take (jl + 1)).map (slotOf x) = ((chosen x n not).take jl).map (slotOf x) ++ [slotOf x d] := by
    obtain ⟨hl, he⟩ := List.getElem?_eq_some_iff.1 hd
    rw [List.take_succ_eq_append_getElem hl, he, List.map_append]; rfl
  refine ⟨h.used.frame (fun b hb hlt => hg.block b hlt (fun e => ?_)) s, by rw [e1]; exact ho, ⟨Sf, f1.frame (fun b hb hlt => hg.block b hlt (f2 b hb).2.2.2) s, fun b hs => ?_⟩, h.live.frame (fun b hb hlt => hg.block b hlt (hn b hb.2)) s, (hg.block _ (by omega) (hn _ (by omega))).trans h.box, (hg.block _ (by omega) (hn _ (by omega))).trans h.res,
    h.below.grown hg (by omega) (fun r hr => by have := (h.list.lt r hr).1; omega), by omega, h.lo, fun b hb => ?_⟩
  · rcases hb with hb | hb
    · exact hb
    · exact h.apart b hb.symm e.symm
  · have := f2 b hs
    refine ⟨this.1, by omega, this.2.2.1, ?_⟩
    rcases hat with e | e
    · rw [e]; exact this.2.2.2
    · rw [e]; intro e2; injection e2 with e2; omega
  · rcases hat with e | e
    · rw [e]; exact h.apart b hb
    · rw [e]; intro e2; injection e2 with e2
      have := (h.used.lt b hb).2
      omega
/-- The row of one disk is stored anew, without its first slot. -/
theorem TI.free1 {b1 o1 : Nat} (h : TI w hi x n not A3 c3 (some ⟨b1, o1, none⟩) n4 c4 n2 ju jl jf A5 c5 A6 c6 V) {d : Nat} (hd : (chosen x n not)[jf]? = some (d : Int)) (hdn : d < n4) (hb : Below V.heap.size V V') {AR : Option Addr} {m cR : Nat} (ho : Own 3 intE V' V.heap.size (fun _ => False) AR m cR (x.free.getD d []).tail)
    (hb1 : b1 < hi) : TI w hi x n not A3 c3 (some ⟨b1, o1, none⟩) n4 c4 n2 ju jl (jf + 1) A5 c5 A6 c6 (V'.setCell ⟨b1, o1 + d, none⟩ (.slice AR m cR)) := by
  have h' := h.all hb
  obtain ⟨Sf, f1, f2⟩ := h.free
  have g1 := f1.all hb
  have s := hb.size
  have s1 := h.size
  have s2 := h.lo
  have hlo : w.heap.size + 2 ≤ b1 := by
    obtain ⟨b, o, e, hs, _⟩ := f1.2.2.2 (by omega)
    injection e with e; injection e with e1 _ _; subst e1
    exact (f2 b1 hs).1
  have hm : Sl true 3 intE V' (fun b => Sf b ∨ (V.heap.size ≤ b ∧ b < V'.heap.size)) AR m cR (x.free.getD d []).tail := ((ho.sl (tg := true)).lt_block).mono (fun b hb _ => .inr ⟨by rcases hb.1 with h | h; exact h.elim; exact h, hb.2⟩)
  have g2 := (g1.mono (S' := fun b => Sf b ∨ (V.heap.size ≤ b ∧ b < V'.heap.size)) (fun b hb _ => .inl hb)).set1 rfl (Avoids.slE (intE_avoids _) (by decide)) hdn (v := .slice AR m cR) (y := (x.free.getD d []).tail) ⟨_, _, _, rfl, hm⟩
  rw [← tookX_succ hd] at g2
  obtain ⟨q, hq⟩ := Sl.tagAt g1 (by omega)
  have hne : ∀ b, hi ≤ b → b ≠ b1 := fun b hb e => by omega
  refine ⟨h'.used.frame (fun b hb _ => Below.heap_setCell _ _ _ _ ?_) (by simp), h'.list.frame (fun b hb _ => Below.heap_setCell _ _ _ _ ?_) (by simp), ⟨_, g2, fun b hs => ?_⟩,
    ((Turns.refl (fun b => b = b1) _ V').setCell (p := ⟨b1, o1 + d, none⟩) rfl hq (.slice AR m cR)).sl (boolE_avoids _) (by decide) h'.live, by rw [Below.heap_setCell _ _ _ _ (by simp; omega)]; exact h'.box, by rw [Below.heap_setCell _ _ _ _ (by simp; omega)]; exact h'.res,
    h'.below.setCell (by show w.heap.size ≤ b1; omega) _, by simp; omega, h.lo, h.apart⟩
  · rcases hb with hb | hb
    · exact hb.elim
    · exact hne b (h'.used.lt b hb.symm).1
  · rcases hb with hb | hb
    · exact hb.elim
    · exact hne b (h'.list.lt b hb.symm).1
  · rw [World.size_setCell]
    rcases hs with hs | hs
    · have := f2 b hs; exact ⟨this.1, by omega, this.2.2⟩
    · refine ⟨by omega, hs.2, fun e => ?_, fun e => ?_⟩
      · have := (h.used.lt b e.symm).2; omega
      · have := (h.list.lt b e.symm).2; omega
end
end Go.Proofs.Ytfccghfcilccfaa
