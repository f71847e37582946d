/- silolaw0.Numbers, silolaw0.Slots: what they spoil, and no more. -/
import Derived.Test.YtfccghfcilccfaaS9
namespace Go.Proofs.Ytfccghfcilccfaa
open Go.RowKit Go.Silo

theorem isSome_setCell' (w : World) (p : Addr) (v : Value) (q : Addr) (h : (w.cell? q).isSome = true) : ((w.setCell p v).cell? q).isSome = true := by
  by_cases e : p = q
  · subst e; rw [World.cell?_setCell_same' w p v h]; rfl
  · rw [World.cell?_setCell_other w p q v e]; exact h

/-- Only blocks that meet S have turned; no cell has gone, none is frozen that was not. -/
structure Tame (S : Nat → Prop) (w w' : World) : Prop where
  os : w'.os = w.os
  tape : w'.tape = w.tape
  output : w'.output = w.output
  size : w.heap.size ≤ w'.heap.size
  block : ∀ b, b < w.heap.size → ¬ S b → w'.heap[b]? = w.heap[b]?
  cell : ∀ p, (w.cell? p).isSome = true → (w'.cell? p).isSome = true ∧ w'.frozen? p = w.frozen? p
theorem Tame.refl (S : Nat → Prop) (w : World) : Tame S w w := ⟨rfl, rfl, rfl, Nat.le_refl _, fun _ _ _ => rfl, fun _ h => ⟨h, rfl⟩⟩
theorem Tame.trans {S : Nat → Prop} {a b c : World} (h : Tame S a b) (k : Tame S b c) : Tame S a c :=
  ⟨k.os.trans h.os, k.tape.trans h.tape, k.output.trans h.output, Nat.le_trans h.size k.size, fun i hi hn => (k.block i (Nat.lt_of_lt_of_le hi h.size) hn).trans (h.block i hi hn), fun p hp => ⟨(k.cell p (h.cell p hp).1).1, ((k.cell p (h.cell p hp).1).2).trans (h.cell p hp).2⟩⟩
theorem Tame.mono {S S' : Nat → Prop} {w w' : World} (h : Tame S w w') (hS : ∀ b, b < w.heap.size → S b → S' b) : Tame S' w w' := ⟨h.os, h.tape, h.output, h.size, fun b hb hn => h.block b hb (fun hs => hn (hS b hb hs)), h.cell⟩
theorem Tame.of_below {S : Nat → Prop} {w w' : World} (h : Below w.heap.size w w') : Tame S w w' := ⟨h.os, h.tape, h.output, h.size, fun b hb _ => h.block b hb, fun p hp => by
  obtain ⟨u, hu⟩ := Option.isSome_iff_exists.1 hp
  have hl := World.block_lt_of_cell? w p hu
  exact ⟨by rw [h.cell hl]; exact hp, h.frozen hl⟩⟩
theorem Tame.setCell {S : Nat → Prop} {w w' : World} (h : Tame S w w') {p : Addr} (hp : S p.block) (v : Value) : Tame S w (w'.setCell p v) :=
  h.trans ⟨rfl, rfl, rfl, by simp, fun b _ hn => Below.heap_setCell w' p v b (fun e => hn (by rw [e]; exact hp)), fun q hq => ⟨isSome_setCell' _ _ _ _ hq, World.frozen?_setCell _ _ _ _⟩⟩

/-- n cells that may be written. -/
def Wr (w : World) (A : Option Addr) (n : Nat) : Prop := 0 < n → ∃ b off, A = some ⟨b, off, none⟩ ∧ b < w.heap.size ∧ ∀ j, j < n → (w.cell? ⟨b, off + j, none⟩).isSome = true ∧ w.frozen? ⟨b, off + j, none⟩ = false
theorem Wr.tame {S : Nat → Prop} {w w' : World} {A : Option Addr} {n : Nat} (h : Wr w A n) (k : Tame S w w') : Wr w' A n := fun hn => by
  obtain ⟨b, off, e, hl, hc⟩ := h hn
  exact ⟨b, off, e, Nat.lt_of_lt_of_le hl k.size, fun j hj => ⟨(k.cell _ (hc j hj).1).1, ((k.cell _ (hc j hj).1).2).trans (hc j hj).2⟩⟩
theorem _root_.Go.Silo.Sl.wr {tg : Bool} {T : TypeId} {w : World} {S : Nat → Prop} {A : Option Addr} {n c : Nat} {xs : List Int} (h : Sl tg T intE w S A n c xs) : Wr w A n := fun hn => by
  obtain ⟨b, off, e, _, hl, _, _, _⟩ := h.int_at hn
  refine ⟨b, off, e, hl, fun j hj => ?_⟩
  obtain ⟨b', off', e', _, _, _, hc, hf⟩ := h.int_at hj
  rw [e] at e'
  injection e' with e'; injection e' with e1 e2 _; subst e1; subst e2
  exact ⟨by rw [hc]; rfl, hf⟩

set_option maxHeartbeats 2000000 in
theorem Numbers_c {w : World} {A : Option Addr} {n c : Nat} (h : Wr w A n) (hcap : n ≤ 9223372036854775807) :
    Calls Try.prog 113 #[.slice A n c] w (fun e w' => (∃ v, e = .returned v) ∧ Tame (fun b => 0 < n ∧ ablk A = some b) w w') := by
  go_enter Try.func113, Try.ntmps113
  go_wp2
  go_loopw [2] (fun i wr => ∃ k : Nat, k ≤ n ∧ i = .int .i64 k ∧ Tame (fun b => 0 < n ∧ ablk A = some b) w wr) (fun i _ => n - (intOf i).toNat)
  case atStart => exact ⟨0, Nat.zero_le _, rfl, Tame.refl _ _⟩
  case round =>
    obtain ⟨k, hk, rfl, hT⟩ := hrel
    by_cases hlt : k < n
    · obtain ⟨b, off, rfl, hl, hc⟩ := (h.tame hT) (by omega)
      have hl' := hl
      obtain ⟨hc1, hc2⟩ := hc k hlt
      obtain ⟨u, hu⟩ := Option.isSome_iff_exists.1 hc1
      have HT := Lib.hid hT
      clear hc hT hc1 h
      go_wp2
      go_roundw
      case rel => exact ⟨k + 1, by omega, by go_num, HT.out.setCell (p := ⟨b, off + k, none⟩) ⟨by omega, rfl⟩ _⟩
      case measure => simp [intOf]; omega
    · go_wp2
      refine bodyPost_end (results_none rfl _ _ _) rfl ?_
      exact ⟨⟨_, rfl⟩, hT⟩
end Go.Proofs.Ytfccghfcilccfaa
