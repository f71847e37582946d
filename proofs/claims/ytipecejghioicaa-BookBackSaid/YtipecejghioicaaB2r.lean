/- The base, second part: a store into a slice's element; tagged rows. No program in sight but for element types' numbers. -/
import Derived.Test.YtipecejghioicaaDatar
namespace Go.Silo
open Go.RowKit

theorem shape_setCell (w : World) (p : Addr) (v : Value) (b : Nat) : (w.setCell p v).shape? b = w.shape? b := by
  simp only [World.shape?, World.setCell, Array.getElem?_modify]
  by_cases h : p.block = b
  · subst h
    simp only [if_true]
    cases hh : w.heap[p.block]? with
    | none => rfl
    | some o => cases o <;> simp <;> (try (split <;> simp))
  · rw [if_neg h]

/-- What lies in S and bears the element type T may have turned; what else was there has not. -/
structure Turns (S : Nat → Prop) (T : TypeId) (w w' : World) : Prop where
  os : w'.os = w.os
  tape : w'.tape = w.tape
  output : w'.output = w.output
  size : w.heap.size ≤ w'.heap.size
  block : ∀ b, b < w.heap.size → (¬ S b ∨ ∀ k, w.shape? b ≠ some (T, k)) → w'.heap[b]? = w.heap[b]?
  shape : ∀ b, b < w.heap.size → w'.shape? b = w.shape? b
section
variable {S : Nat → Prop} {T : TypeId} {w w' w'' : World}
theorem Turns.refl (S : Nat → Prop) (T : TypeId) (w : World) : Turns S T w w := ⟨rfl, rfl, rfl, Nat.le_refl _, fun _ _ _ => rfl, fun _ _ => rfl⟩
theorem Turns.trans (h : Turns S T w w') (k : Turns S T w' w'') : Turns S T w w'' :=
  ⟨k.os.trans h.os, k.tape.trans h.tape, k.output.trans h.output, Nat.le_trans h.size k.size, fun b hb hn => (k.block b (Nat.lt_of_lt_of_le hb h.size) (hn.imp id (fun hh i => by rw [h.shape b hb]; exact hh i))).trans (h.block b hb hn), fun b hb => (k.shape b (Nat.lt_of_lt_of_le hb h.size)).trans (h.shape b hb)⟩
theorem Turns.of_below (h : Below w.heap.size w w') : Turns S T w w' := ⟨h.os, h.tape, h.output, h.size, fun b hb _ => h.block b hb, fun b hb => shape_of_block (h.block b hb)⟩
theorem Turns.call (h : Turns S T w w') (k : Below w'.heap.size w' w'') : Turns S T w w'' := h.trans (.of_below k)
theorem Turns.alloc (h : Turns S T w w') (o : Obj) : Turns S T w (w'.alloc o) := h.call ((Below.refl _ _).alloc (Nat.le_refl _) _)
theorem Turns.drew (h : Turns S T w w') : Turns S T w w'.drew := ⟨h.os, h.tape, h.output, h.size, h.block, h.shape⟩
theorem Turns.drewN (h : Turns S T w w') (n : Nat) : Turns S T w (w'.drewN n) := ⟨h.os, h.tape, h.output, h.size, h.block, h.shape⟩
/-- A store into a block of S of element type T. -/
theorem Turns.setCell (h : Turns S T w w') {p : Addr} {k : Nat} (hS : S p.block) (hT : w'.shape? p.block = some (T, k)) (v : Value) : Turns S T w (w'.setCell p v) :=
  ⟨h.os, h.tape, h.output, by simpa using h.size, fun b hb hn => (Below.heap_setCell w' p v b (fun e => by
    subst e
    rcases hn with hn | hn
    · exact hn hS
    · exact hn k ((h.shape _ hb).symm.trans hT))).trans (h.block b hb hn), fun b hb => (shape_setCell w' p v b).trans (h.shape b hb)⟩
/-- An append to a row that is new. -/
theorem Turns.grown (h : Turns S T w w') {row : Option Nat} (hg : w'.grownBy w'' row) (hr : ∀ r, row = some r → w.heap.size ≤ r) : Turns S T w w'' := by
  refine ⟨hg.os.trans h.os, hg.tape.trans h.tape, hg.output.trans h.output, Nat.le_trans h.size hg.size, fun b hb hn => (hg.block b (Nat.lt_of_lt_of_le hb h.size) (fun e => by have := hr b e.symm; omega)).trans (h.block b hb hn), fun b hb => ?_⟩
  rw [shape_of_block (hg.block b (Nat.lt_of_lt_of_le hb h.size) (fun e => by have := hr b e.symm; omega))]
  exact h.shape b hb
theorem Turns.below (h : Turns S T w w') {B : Nat} (hB : B ≤ w.heap.size) (hS : ∀ b, S b → B ≤ b) : Below B w w' := ⟨h.os, h.tape, h.output, h.size, fun b hb => h.block b (by omega) (.inl fun hs => by have := hS b hs; omega)⟩
/-- Rows of another element type read as they did. -/
theorem Turns.sl {α : Type} {E : Enc α} {T' : TypeId} {S' : Nat → Prop} {A : Option Addr} {n c : Nat} {xs : List α} (h : Turns S T w w') (hE : E.Avoids T) (hT : T' ≠ T) (hs : Sl true T' E w S' A n c xs) : Sl true T' E w' S' A n c xs :=
  hs.avoid hE hT (fun b _ hlt hn => h.block b hlt (.inr hn)) h.size
theorem Turns.heap (h : Turns S T w w') {b : Nat} {cs : Array Value} {T' : TypeId} {fr : Nat × Nat} (hb : w.heap[b]? = some (.cells cs T' fr)) (hT : T' ≠ T) : w'.heap[b]? = some (.cells cs T' fr) := by
  rw [h.block b (Array.getElem?_eq_some_iff.1 hb).1 (.inr fun k e => by rw [shape_of_cells hb] at e; injection e with e; injection e with e _; exact hT e)]
  exact hb
end

theorem boolE_avoids (T : TypeId) : boolE.Avoids T := Avoids.flat
/-- The tail of a slice. -/
theorem Sl.tail {α : Type} {tg : Bool} {T : TypeId} {E : Enc α} {w : World} {S : Nat → Prop} {b off n c : Nat} {xs : List α} (h : Sl tg T E w S (some ⟨b, off, none⟩) n c xs) (hn : 0 < n) (hsz : E.sz = 1) :
    Sl tg T E w S (some (if c = 1 then ⟨b, off, none⟩ else ⟨b, off + 1, none⟩)) (n - 1) (c - 1) xs.tail := by
  obtain ⟨h1, h2, h3, h4⟩ := h
  refine ⟨by rw [List.length_tail]; omega, by omega, by omega, fun hn1 => ?_⟩
  obtain ⟨b', off', e, hb, hlt, ht, hx⟩ := h4 hn
  injection e with e; injection e with e1 e2 _; subst e1; subst e2
  rw [if_neg (by omega)]
  refine ⟨b, off + 1, rfl, hb, hlt, ht, fun k x hk => ?_⟩
  rw [List.getElem?_tail] at hk
  obtain ⟨vs, hv, hc⟩ := hx (k + 1) x hk
  refine ⟨vs, hv, fun j v hj => ?_⟩
  have := hc j v hj
  rw [hsz, Nat.mul_one] at this ⊢
  rwa [show off + 1 + k + j = off + (k + 1) + j from by omega]
end Go.Silo
