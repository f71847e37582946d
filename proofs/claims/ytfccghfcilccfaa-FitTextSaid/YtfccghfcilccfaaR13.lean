/- A drawn region that calls and makes memory, then stores once. -/
import Derived.Test.YtfccghfcilccfaaA4
import Derived.Test.YtfccghfcilccfaaB6
import Derived.Test.YtfccghfcilccfaaS9
-- from R12
namespace Go.Proofs.Ytfccghfcilccfaa
open Go.RowKit Go.Silo

theorem slots_wr {tg : Bool} {T : TypeId} {w : World} {S : Nat → Prop} {A : Option Addr} {n c : Nat} {xs : List Slot} (h : Sl tg T slotE w S A n c xs) : Wr w A (n * 2) := fun hn => by
  obtain ⟨b, off, e, _, hl, _, _, _⟩ := h.slot_at (k := 0) (by omega)
  refine ⟨b, off, e, hl, fun j hj => ?_⟩
  obtain ⟨b', off', e', _, _, _, _, hc0, hc1, hf0, hf1⟩ := h.slot_at (k := j / 2) (by omega)
  rw [e] at e'
  injection e' with e'; injection e' with e1 e2 _; subst e1; subst e2
  rcases (by omega : j = j / 2 * 2 ∨ j = j / 2 * 2 + 1) with h' | h'
  · rw [h']; exact ⟨by rw [hc0]; rfl, hf0⟩
  · rw [h', ← Nat.add_assoc]; exact ⟨by rw [hc1]; rfl, hf1⟩
theorem _root_.Go.Proofs.Ytfccghfcilccfaa.Tame.agree {S : Nat → Prop} {w w' : World} (h : Tame S w w') : Agree (fun b => ¬ S b) w w' := fun b hb hlt => h.block b hlt hb

set_option maxHeartbeats 2000000 in
theorem SlotList_c {w : World} {A : Option Addr} {n c : Nat} (h : Wr w A (n * 2)) (hcap : n ≤ 9223372036854775807) :
    Calls Try.prog 59 #[.slice A n c] w (fun e w' => (∃ v, e = .returned v) ∧ Tame (fun b => 0 < n ∧ ablk A = some b) w w') := by
  go_enter Try.func59, Try.ntmps59
  go_wp2
  go_loopw [2] (fun i wr => ∃ k : Nat, k ≤ n ∧ i = .int .i64 k ∧ Tame (fun b => 0 < n ∧ ablk A = some b) w wr) (fun i _ => n - (intOf i).toNat)
  case atStart => exact ⟨0, Nat.zero_le _, rfl, Tame.refl _ _⟩
  case round =>
    obtain ⟨k, hk, rfl, hT⟩ := hrel
    by_cases hlt : k < n
    · obtain ⟨b, off, rfl, hl, hc⟩ := (h.tame hT) (by omega)
      have hl' := hl
      obtain ⟨hc1, hc2⟩ := hc (k * 2) (by omega)
      obtain ⟨hc3, hc4⟩ := hc (k * 2 + 1) (by omega)
      rw [← Nat.add_assoc] at hc3 hc4
      obtain ⟨u, hu⟩ := Option.isSome_iff_exists.1 hc1
      obtain ⟨u', hu'⟩ := Option.isSome_iff_exists.1 hc3
      have HT := Lib.hid hT
      clear hc hT hc1 hc3 h
      go_wp2
      go_roundw
      case rel => exact ⟨k + 1, by omega, by go_num, (HT.out.setCell (p := ⟨b, off + k * 2, none⟩) ⟨by omega, rfl⟩ _).setCell (p := ⟨b, off + k * 2 + 1, none⟩) ⟨by omega, rfl⟩ _⟩
      case measure => simp [intOf]; omega
    · go_wp2
      refine bodyPost_end (results_none rfl _ _ _) rfl ?_
      exact ⟨⟨_, rfl⟩, hT⟩
end Go.Proofs.Ytfccghfcilccfaa
namespace Go.Silo
open Go Go.RowKit
/-- As WdT, but with one store. -/
inductive WdS (V : World) (R : Nat → Value → World → Prop) (s1 : Nat) (st1 : List (Nat × Value) → World → World) : List (Nat × Value) → World → Prop
  | pre {us : List (Nat × Value)} {W : World} : Below V.heap.size V W → (∀ i v, (i, v) ∈ us → R i v W) → s1 ∉ us.map Prod.fst → WdS V R s1 st1 us W
  | one {us : List (Nat × Value)} {W : World} {x : Value} : Below V.heap.size V W → (∀ i v, (i, v) ∈ us → R i v W) → s1 ∉ us.map Prod.fst → WdS V R s1 st1 (us ++ [(s1, x)]) (st1 us W)
section
variable {V W W' : World} {R : Nat → Value → World → Prop} {s1 : Nat} {st1 : List (Nat × Value) → World → World} {us : List (Nat × Value)}
theorem WdS.init : WdS V R s1 st1 [] V.drew := .pre (Below.refl _ _).drew (fun _ _ h => by cases h) (by simp)
theorem WdS.early (h : WdS V R s1 st1 us W) (hn : s1 ∉ us.map Prod.fst) : Below V.heap.size V W ∧ ∀ i v, (i, v) ∈ us → R i v W := by
  cases h with
  | pre hb h _ => exact ⟨hb, h⟩
  | one _ _ _ => exact absurd (by simp) hn
theorem WdS.snoc (h : WdS V R s1 st1 us W) {i : Nat} {x : Value} (h1 : i ≠ s1) (hn : s1 ∉ us.map Prod.fst) (hb : Below W.heap.size W W') (hs : ∀ j v, R j v W → R j v W') (hx : R i x W') : WdS V R s1 st1 (us ++ [(i, x)]) W' := by
  obtain ⟨hB, hR⟩ := h.early hn
  refine .pre (hB.trans (hb.mono hB.size)) (fun j v hj => ?_) ?_
  · rcases List.mem_append.1 hj with hj | hj
    · exact hs j v (hR j v hj)
    · simp at hj
      obtain ⟨rfl, rfl⟩ := hj
      exact hx
  · rw [List.map_append, List.mem_append]
    rintro (h | h)
    · exact hn h
    · simp at h; exact h1 h.symm
theorem WdS.store (h : WdS V R s1 st1 us W) (hn : s1 ∉ us.map Prod.fst) {x : Value} : WdS V R s1 st1 (us ++ [(s1, x)]) (st1 us W) := .one (h.early hn).1 (h.early hn).2 hn
theorem WdS.last (h : WdS V R s1 st1 us W) (h1 : s1 ∈ us.map Prod.fst) : ∃ us0 W0 x, us = us0 ++ [(s1, x)] ∧ W = st1 us0 W0 ∧ Below V.heap.size V W0 ∧ (∀ i v, (i, v) ∈ us0 → R i v W0) ∧ s1 ∉ us0.map Prod.fst := by
  cases h with
  | pre _ _ h => exact absurd h1 h
  | @one us0 W0 x a b c => exact ⟨us0, W0, x, rfl, rfl, a, b, c⟩
end
theorem turnsAll {S : Nat → Prop} {T : TypeId} {g n : Nat} (hS : S g) : ∀ (vs : List Value) (k : Nat) (W0 W : World), Turns S T W0 W → W.shape? g = some (T, n) → Turns S T W0 (setAll g k vs W)
  | [], _, _, _, h, _ => h
  | v :: vs, k, W0, _, h, hs => turnsAll hS vs (k + 1) W0 _ (h.setCell (p := ⟨g, k, none⟩) hS hs v) ((shape_setCell _ _ _ _).trans hs)
theorem WdS.ever {V W : World} {R : Nat → Value → World → Prop} {s1 : Nat} {st1 : List (Nat × Value) → World → World} {us : List (Nat × Value)} (h : WdS V R s1 st1 us W) {i : Nat} (hi : i ∈ us.map Prod.fst) (h1 : i ≠ s1) : ∃ v W0, us.lookup i = some v ∧ R i v W0 := by
  cases h with
  | pre _ hR _ => obtain ⟨v, a, b⟩ := lookup_mem hi; exact ⟨v, _, a, hR i v b⟩
  | @one us0 W0 x _ hR _ => obtain ⟨v, a, b⟩ := lookup_mem (before_mid hi h1); exact ⟨v, _, by rw [lookup_mid h1]; exact a, hR i v b⟩
/-- A store of known parts into step ib's box. -/
def stC (ib : Nat) (vs : List Value) (us : List (Nat × Value)) (W : World) : World := setAll (blkOf ((us.lookup ib).getD undef)) 0 vs W
/-- A store of step iv's parts into step ib's box. -/
def stA (ib iv : Nat) (us : List (Nat × Value)) (W : World) : World := setAll (blkOf ((us.lookup ib).getD undef)) 0 (partsOf ((us.lookup iv).getD undef)) W
/-- A store of a part of step iv's tuple into step ib's box. -/
def stTB (ib iv k : Nat) (us : List (Nat × Value)) (W : World) : World := setAll (blkOf ((us.lookup ib).getD undef)) 0 (partsOf (tupAt k ((us.lookup iv).getD undef))) W
/-- A row of numbers reads as they are. -/
theorem sl_ints {W : World} {g n : Nat} {T : TypeId} {xs : List Int} (hn : xs.length = n) (hcap : n ≤ 9223372036854775807) (hv : ∀ x ∈ xs, I64 x) (h : W.heap[g]? = some (.cells (xs.map (fun x => Value.int .i64 x)).toArray T (0, 0))) : Sl true T intE W (fun b => b = g) (some ⟨g, 0, none⟩) n n xs := by
  refine ⟨hn, Nat.le_refl _, hcap, fun _ => ⟨g, 0, rfl, rfl, (Array.getElem?_eq_some_iff.1 h).1, fun _ => ⟨_, shape_of_cells h⟩, fun k y hk => ⟨[.int .i64 y], ⟨rfl, hv y (List.mem_of_getElem? hk)⟩, fun i u hi => ?_⟩⟩⟩
  match i, hi with
  | 0, hi =>
    injection hi with hi; subst hi
    have e : 0 + k * intE.sz + 0 = k := by show 0 + k * 1 + 0 = k; omega
    rw [e]
    have hc : (xs.map (fun x => Value.int .i64 x)).toArray[k]? = some (.int .i64 y) := by rw [List.getElem?_toArray, List.getElem?_map, hk]; rfl
    exact ⟨(cell_of_row W g k _ _ _ h).trans hc, frozen_of_row W g k _ _ h⟩
end Go.Silo
