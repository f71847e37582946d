/- A stripe behind what was written: place.Moved. Printed by gen_f2.py. -/
import Derived.Test.YtfccghfcilccfaaF1
import Derived.Test.YtfccghfcilccfaaE4
import Derived.Test.YtfccghfcilccfaaB6
import Derived.Deep.CutBlock
namespace Go.Silo
open Go Go.RowKit
/-- A region with one step that stores, behind all that read. -/
inductive Wd1 (V : World) (i : Nat) (V' : World) : List (Nat × Value) → World → Prop
  | pre : Wd1 V i V' [] V
  | post {x : Value} : Wd1 V i V' [(i, x)] V'
theorem Wd1.early {V V' W : World} {i : Nat} {us : List (Nat × Value)} (h : Wd1 V i V' us W) (hn : i ∉ us.map Prod.fst) : us = [] ∧ W = V := by
  cases h with
  | pre => exact ⟨rfl, rfl⟩
  | post => exact absurd (by simp) hn
theorem Wd1.done {V V' W : World} {i : Nat} {us : List (Nat × Value)} (h : Wd1 V i V' us W) (hm : i ∈ us.map Prod.fst) : W = V' := by
  cases h with
  | pre => simp at hm
  | post => rfl
theorem Own.form_lt {α : Type} {T : TypeId} {E : Enc α} {w : World} {base : Nat} {S : Nat → Prop} {A : Option Addr} {n c : Nat} {xs : List α} (h : Own T E w base S A n c xs) {base' : Nat} (hb : base' ≤ base) : Own T E w base' S A n c xs := by
  obtain ⟨cells, ho, hl, hx⟩ := h
  refine ⟨cells, ⟨ho.1, ?_⟩, hl, hx⟩
  rcases ho.2 with h | ⟨g, cap, cur, hv, hg, r⟩
  · exact .inl h
  · exact .inr ⟨g, cap, cur, hv, Nat.le_trans hb hg, r⟩
theorem Own.slots {T : TypeId} {w : World} {base : Nat} {S S' : Nat → Prop} {A : Option Addr} {n c : Nat} {xs : List Slot} (h : Own T slotE w base S A n c xs) : Own T slotE w base S' A n c xs := by
  obtain ⟨cells, ho, hl, hx⟩ := h
  exact ⟨cells, ho, hl, hx⟩
/-- A store of a slot into a row of one's own. -/
theorem Own.setSlot {T : TypeId} {w : World} {base : Nat} {S : Nat → Prop} {g n c : Nat} {xs : List Slot} (h : Own T slotE w base S (some ⟨g, 0, none⟩) n c xs) {k : Nat} (hk : k < n) {p : Slot} (hp : I64 p.disk ∧ I64 p.pos) :
    Own T slotE ((w.setCell ⟨g, k * 2, none⟩ (.int .i64 p.disk)).setCell ⟨g, k * 2 + 1, none⟩ (.int .i64 p.pos)) base S (some ⟨g, 0, none⟩) n c (xs.set k p) := by
  obtain ⟨cells, ho, hl, hx⟩ := h
  have hcl : cells.length = n * 2 := ho.1
  refine ⟨(cells.set (k * 2) (.int .i64 p.disk)).set (k * 2 + 1) (.int .i64 p.pos), ((ho.stored (k * 2) _).1.stored (k * 2 + 1) _).1, by rw [List.length_set]; exact hl, fun j z hj => ?_⟩
  have hjn : j < n := by have := (List.getElem?_eq_some_iff.1 hj).1; rw [List.length_set] at this; omega
  have key : ∀ l : List Value, l.length = n * 2 → (l.drop (j * 2)).take 2 = [l.getD (j * 2) undef, l.getD (j * 2 + 1) undef] := fun l hll => by
    apply List.ext_getElem?
    intro i
    rw [List.getElem?_take]
    match i with
    | 0 => simp [List.getElem?_drop, List.getElem?_eq_getElem (show j * 2 < l.length by omega)]
    | 1 => simp [List.getElem?_drop, List.getElem?_eq_getElem (show j * 2 + 1 < l.length by omega)]
    | i + 2 => simp; omega
  show slotE.R _ _ ((((cells.set (k * 2) _).set (k * 2 + 1) _).drop (j * 2)).take 2) z
  rw [key _ (by simp [hcl])]
  by_cases hjk : j = k
  · subst hjk
    rw [List.getElem?_set_self (by omega)] at hj
    injection hj with hj
    subst hj
    rw [List.getD_eq_getElem?_getD, List.getD_eq_getElem?_getD, List.getElem?_set_ne (by omega), List.getElem?_set_self (by omega), List.getElem?_set_self (by rw [List.length_set]; omega)]
    exact ⟨rfl, hp⟩
  · rw [List.getElem?_set_ne (Ne.symm hjk)] at hj
    have h1 : slotE.R _ _ ((cells.drop (j * 2)).take 2) z := hx j z hj
    rw [key _ hcl] at h1
    rw [List.getD_eq_getElem?_getD, List.getD_eq_getElem?_getD, List.getElem?_set_ne (by omega), List.getElem?_set_ne (by omega), List.getElem?_set_ne (by omega), List.getElem?_set_ne (by omega), ← List.getD_eq_getElem?_getD, ← List.getD_eq_getElem?_getD]
    exact h1
end Go.Silo
namespace Go.Proofs.Ytfccghfcilccfaa
open Go.RowKit Go.Silo

/-- The places behind the first k pieces of a need. -/
def movP (x : Stripe) (nd : Need) : Nat → List Slot
  | 0 => x.place
  | k + 1 => (movP x nd k).set (nd.index.getD k 0).toNat (nd.to.getD k default)
/-- The slots that are free behind them. -/
def freeP (x : Stripe) (nd : Need) : Nat → List Slot
  | 0 => []
  | k + 1 => freeP x nd k ++ if ((movP x nd k).getD (nd.index.getD k 0).toNat default).disk = -1 then [] else [(movP x nd k).getD (nd.index.getD k 0).toNat default]
theorem movP_len (x : Stripe) (nd : Need) : ∀ k, (movP x nd k).length = x.place.length
  | 0 => rfl
  | k + 1 => by show ((movP x nd k).set _ _).length = _; rw [List.length_set]; exact movP_len x nd k
theorem freeP_le (x : Stripe) (nd : Need) : ∀ k, (freeP x nd k).length ≤ k
  | 0 => Nat.le_refl _
  | k + 1 => by
    have := freeP_le x nd k
    show (freeP x nd k ++ _).length ≤ _
    rw [List.length_append]
    split <;> simp <;> omega
def noStripe : Stripe := ⟨0, 0, 0, []⟩
def movedX (x : Stripe) (nd : Need) : Stripe := ⟨x.id, x.len, x.gen, movP x nd nd.index.length⟩
def movedR (s : Shape) (x : Stripe) (nd : Need) : Stripe × List Slot × Int :=
  if stripeOk s x = true ∧ ofB x nd = true ∧ apartB (movP x nd nd.index.length) = true then (movedX x nd, freeP x nd nd.index.length, 0) else (noStripe, [], 1)
/-- Three results: a stripe, slots, a number. -/
def RetMoved (w : World) (r : Stripe × List Slot × Int) (e : Ending) (w' : World) : Prop :=
  ∃ A n c B m d, e = .returned (.tuple #[.agg #[.int .i64 r.1.id, .int .i64 r.1.len, .int .i64 r.1.gen, .slice A n c], .slice B m d, .int .i64 r.2.2]) ∧ Sl true 104 slotE w' (fun b => w.heap.size ≤ b) A n c r.1.place ∧ Sl true 104 slotE w' (fun b => w.heap.size ≤ b) B m d r.2.1 ∧ Below w.heap.size w w'
theorem RetMoved.bad {w w' : World} {R : Stripe × List Slot × Int} (h : R = (noStripe, [], 1)) (hb : Below w.heap.size w w') : RetMoved w R (.returned (.tuple #[.agg #[.int .i64 0, .int .i64 0, .int .i64 0, .slice none 0 0], .slice none 0 0, .int .i64 1])) w' := by
  subst h
  exact ⟨_, _, _, _, _, _, rfl, Sl.nil_ (by decide), Sl.nil_ (by decide), hb⟩

/-- The four boxes. -/
structure MD (w : World) (vs vn : List Value) (x : Stripe) (A : Option Addr) (n c : Nat) (u0 u1 u2 u3 : Value) (V : World) : Prop where
  b0 : V.heap[w.heap.size]? = some (.cells vs.toArray 23 (0, 0))
  b1 : V.heap[w.heap.size + 1]? = some (.cells #[.int .i64 x.id, .int .i64 x.len, .int .i64 x.gen, .slice A n c] 79 (0, 0))
  b2 : V.heap[w.heap.size + 2]? = some (.cells vn.toArray 88 (0, 0))
  b3 : V.heap[w.heap.size + 3]? = some (.cells #[u0, u1, u2, u3] 79 (0, 0))
  below : Below w.heap.size w V
section
variable {w : World} {vs vn : List Value} {x : Stripe} {A A' : Option Addr} {n c n' c' : Nat} {u0 u1 u2 u3 p q r t : Value} {V V' : World}
theorem MD.hi (h : MD w vs vn x A n c u0 u1 u2 u3 V) : w.heap.size + 3 < V.heap.size := (Array.getElem?_eq_some_iff.1 h.b3).1
theorem MD.frame (h : MD w vs vn x A n c u0 u1 u2 u3 V) (hb : ∀ b, b ≤ w.heap.size + 3 → V'.heap[b]? = V.heap[b]?) (hB : Below w.heap.size w V') : MD w vs vn x A n c u0 u1 u2 u3 V' :=
  ⟨(hb _ (by omega)).trans h.b0, (hb _ (by omega)).trans h.b1, (hb _ (by omega)).trans h.b2, (hb _ (by omega)).trans h.b3, hB⟩
theorem MD.all (h : MD w vs vn x A n c u0 u1 u2 u3 V) (hb : Below V.heap.size V V') : MD w vs vn x A n c u0 u1 u2 u3 V' :=
  h.frame (fun b hb' => hb.block b (by have := h.hi; omega)) (h.below.trans (hb.mono (by have := h.hi; omega)))
theorem MD.grown {row : Option Nat} (h : MD w vs vn x A n c u0 u1 u2 u3 V) (hg : V.grownBy V' row) (hr : ∀ r, row = some r → w.heap.size + 4 ≤ r) : MD w vs vn x A n c u0 u1 u2 u3 V' :=
  h.frame (fun b hb => hg.block b (by have := h.hi; omega) (fun e => by have := hr b e.symm; omega)) (h.below.grown hg (by have := h.hi; omega) (fun r hr' => by have := hr r hr'; omega))
theorem MD.set (h : MD w vs vn x A n c u0 u1 u2 u3 V) {a : Addr} (ha : w.heap.size + 4 ≤ a.block) (v : Value) : MD w vs vn x A n c u0 u1 u2 u3 (V.setCell a v) :=
  h.frame (fun b hb => Below.heap_setCell _ _ _ _ (by omega)) (h.below.setCell (by omega) _)
theorem row_fourth {w : World} {g : Nat} {a b c d z : Value} {T : TypeId} (h : w.heap[g]? = some (.cells #[a, b, c, d] T (0, 0))) : (w.setCell ⟨g, 3, none⟩ z).heap[g]? = some (.cells #[a, b, c, z] T (0, 0)) := by
  simp [World.setCell, Array.getElem?_modify, h]
theorem MD.st1 (h : MD w vs vn x A n c u0 u1 u2 u3 V) : MD w vs vn x A' n' c' u0 u1 u2 u3 (V.setCell ⟨w.heap.size + 1, 3, none⟩ (.slice A' n' c')) := by
  have hb : ∀ b, b ≠ w.heap.size + 1 → (V.setCell ⟨w.heap.size + 1, 3, none⟩ (.slice A' n' c')).heap[b]? = V.heap[b]? := fun b hb => by rw [Below.heap_setCell _ _ _ _ hb]
  exact ⟨(hb _ (by omega)).trans h.b0, row_fourth h.b1, (hb _ (by omega)).trans h.b2, (hb _ (by omega)).trans h.b3, h.below.setCell (by show w.heap.size ≤ w.heap.size + 1; omega) _⟩
theorem MD.c0 (h : MD w vs vn x A n c u0 u1 u2 u3 V) : V.cell? ⟨w.heap.size + 1, 0, none⟩ = some (.int .i64 x.id) ∧ V.cell? ⟨w.heap.size + 1, 1, none⟩ = some (.int .i64 x.len) ∧ V.cell? ⟨w.heap.size + 1, 2, none⟩ = some (.int .i64 x.gen) ∧ V.cell? ⟨w.heap.size + 1, 3, none⟩ = some (.slice A n c) ∧ V.frozen? ⟨w.heap.size + 1, 3, none⟩ = false :=
  ⟨cell_of_row V _ 0 _ _ _ h.b1, cell_of_row V _ 1 _ _ _ h.b1, cell_of_row V _ 2 _ _ _ h.b1, cell_of_row V _ 3 _ _ _ h.b1, frozen_of_row V _ 3 _ _ h.b1⟩
theorem MD.c3 (h : MD w vs vn x A n c u0 u1 u2 u3 V) : (V.cell? ⟨w.heap.size + 3, 0, none⟩ = some u0 ∧ V.cell? ⟨w.heap.size + 3, 1, none⟩ = some u1 ∧ V.cell? ⟨w.heap.size + 3, 2, none⟩ = some u2 ∧ V.cell? ⟨w.heap.size + 3, 3, none⟩ = some u3) ∧ V.frozen? ⟨w.heap.size + 3, 0, none⟩ = false ∧ V.frozen? ⟨w.heap.size + 3, 1, none⟩ = false ∧ V.frozen? ⟨w.heap.size + 3, 2, none⟩ = false ∧ V.frozen? ⟨w.heap.size + 3, 3, none⟩ = false :=
  ⟨⟨cell_of_row V _ 0 _ _ _ h.b3, cell_of_row V _ 1 _ _ _ h.b3, cell_of_row V _ 2 _ _ _ h.b3, cell_of_row V _ 3 _ _ _ h.b3⟩, frozen_of_row V _ 0 _ _ h.b3, frozen_of_row V _ 1 _ _ h.b3, frozen_of_row V _ 2 _ _ h.b3, frozen_of_row V _ 3 _ _ h.b3⟩
end

/-- In the loop: the places, the slots that are free. -/
structure ML (w : World) (x : Stripe) (nd : Need) (k : Nat) (g n c : Nat) (F : Option Addr) (d : Nat) (V : World) : Prop where
  a : Own 104 slotE V (w.heap.size + 4) (fun _ => False) (some ⟨g, 0, none⟩) n c (movP x nd k)
  b : Own 104 slotE V (w.heap.size + 4) (fun _ => False) F (freeP x nd k).length d (freeP x nd k)
  ne : ablk F ≠ some g
section
variable {w V V' : World} {x : Stripe} {nd : Need} {k g n c d d9 : Nat} {F F9 : Option Addr}
theorem ML.all (h : ML w x nd k g n c F d V) (hb : Below V.heap.size V V') : ML w x nd k g n c F d V' := ⟨h.a.all hb, h.b.all hb, h.ne⟩
theorem ML.lo (h : ML w x nd k g n c F d V) : w.heap.size + 4 ≤ g ∧ g < V.heap.size := h.a.lt g rfl
end

theorem stripeOk_np {s : Shape} {x : Stripe} (h : stripeOk s x = true) : 1 ≤ x.place.length ∧ x.place.length ≤ 14 := by
  unfold stripeOk shapeOk at h
  simp only [Bool.and_eq_true, decide_eq_true_eq] at h
  omega
theorem ofB_parts {x : Stripe} {nd : Need} (h : ofB x nd = true) : nd.index.length = nd.to.length ∧ ∀ j, j < nd.index.length → ofAt x nd j = true := by
  unfold ofB at h
  simp only [Bool.and_eq_true, decide_eq_true_eq] at h
  exact ⟨h.1.2, fun j hj => List.all_eq_true.1 h.2 j (List.mem_range.2 hj)⟩
theorem ofAt_idx {x : Stripe} {nd : Need} {k : Nat} (h : ofAt x nd k = true) : ∃ i : Nat, nd.index.getD k 0 = (i : Int) ∧ i < x.place.length := by
  unfold ofAt at h
  simp only [Bool.not_eq_true', Bool.or_eq_false_iff, decide_eq_false_iff_not] at h
  obtain ⟨i, hi⟩ := Int.eq_ofNat_of_zero_le (show 0 ≤ nd.index.getD k 0 by omega)
  exact ⟨i, hi, by omega⟩
theorem ofB_ge {x : Stripe} {nd : Need} (h : ∀ j, j < nd.index.length → ofAt x nd j = true) : ∀ k, k < nd.index.length → (k : Int) ≤ nd.index.getD k 0
  | 0, hk => by
    have h1 := h 0 hk
    unfold ofAt at h1
    simp only [Bool.not_eq_true', Bool.or_eq_false_iff, decide_eq_false_iff_not] at h1
    omega
  | k + 1, hk => by
    have ih := ofB_ge h k (by omega)
    have h1 := h (k + 1) hk
    unfold ofAt at h1
    simp only [Bool.not_eq_true', Bool.or_eq_false_iff, Bool.and_eq_false_iff, decide_eq_false_iff_not, Nat.add_sub_cancel] at h1
    omega
theorem ofB_few {x : Stripe} {nd : Need} (h : ∀ j, j < nd.index.length → ofAt x nd j = true) {k : Nat} (hk : k < nd.index.length) : k < x.place.length := by
  have h1 := ofB_ge h k hk
  obtain ⟨i, hi, hl⟩ := ofAt_idx (h k hk)
  omega
theorem mlNext {w V : World} {x : Stripe} {nd : Need} {k g n c d9 : Nat} {F9 : Option Addr} (ha : Own 104 slotE V (w.heap.size + 4) (fun _ => False) (some ⟨g, 0, none⟩) n c (movP x nd k)) {iN : Nat} (hi : nd.index.getD k 0 = (iN : Int)) (hlt : iN < n) (hp : I64 (nd.to.getD k default).disk ∧ I64 (nd.to.getD k default).pos) (hF : Own 104 slotE V (w.heap.size + 4) (fun _ => False) F9 (freeP x nd (k + 1)).length d9 (freeP x nd (k + 1))) (hne : ablk F9 ≠ some g) :
    ML w x nd (k + 1) g n c F9 d9 ((V.setCell ⟨g, iN * 2, none⟩ (.int .i64 (nd.to.getD k default).disk)).setCell ⟨g, iN * 2 + 1, none⟩ (.int .i64 (nd.to.getD k default).pos)) := by
  refine ⟨?_, ?_, hne⟩
  · have := ha.setSlot hlt hp
    show Own _ _ _ _ _ _ _ _ ((movP x nd k).set (nd.index.getD k 0).toNat _)
    rw [hi]
    exact this
  · exact (hF.frame (Agree.setCell (fun hh => by rcases hh with hh | hh; exact hh; exact hne hh.symm) _) (by simp)).frame (Agree.setCell (fun hh => by rcases hh with hh | hh; exact hh; exact hne hh.symm) _) (by simp)

set_option maxRecDepth 100000 in
set_option maxHeartbeats 8000000 in
theorem Moved_c {tg tg0 tg1 : Bool} {S S0 S1 : Nat → Prop} {w : World} {Ap A0 A1 : Option Addr} {np cp n0 c0 n1 c1 : Nat} {s : Shape} {x : Stripe} {nd : Need}
    (hsI : I64 s.K ∧ I64 s.M ∧ I64 s.size) (hxI : I64 x.id ∧ I64 x.len ∧ I64 x.gen) (hp : Sl tg 104 slotE w S Ap np cp x.place)
    (h0 : Sl tg0 3 intE w S0 A0 n0 c0 nd.index) (h1 : Sl tg1 104 slotE w S1 A1 n1 c1 nd.to) :
    Calls Try.prog 66 #[.agg #[.int .i64 s.K, .int .i64 s.M, .int .i64 s.size], .agg #[.int .i64 x.id, .int .i64 x.len, .int .i64 x.gen, .slice Ap np cp], .agg #[.int .i64 nd.stripe, .slice A0 n0 c0, .slice A1 n1 c1]] w (RetMoved w (movedR s x nd)) := by
  obtain ⟨i0, hi0, hz0, hz1, hz2⟩ := info_parts Try.info_Slot
  have HLP := Lib.hid hp.len
  have HL0 := Lib.hid h0.len
  have HL1 := Lib.hid h1.len
  have hcap0 : n0 ≤ 9223372036854775807 := Nat.le_trans h0.le h0.cap
  have HMAY := Lib.hid (fun W (hW : Below w.heap.size w W) => placeMay_c (s := s) (x := x) hsI hxI (hp.all hW))
  have HOF := Lib.hid (fun W (hW : Below w.heap.size w W) => placeOf_c (w := W) (x := x) (nd := nd) (hp.all hW) (h0.all hW) (h1.all hW))
  have HP := Lib.hid (fun W (hW : Below w.heap.size w W) => hp.all hW)
  have HI := Lib.hid (fun W (hW : Below w.heap.size w W) => h0.all hW)
  have HTO := Lib.hid (fun W (hW : Below w.heap.size w W) => h1.all hW)
  have hbad : ¬ (stripeOk s x = true ∧ ofB x nd = true ∧ apartB (movP x nd nd.index.length) = true) → movedR s x nd = (noStripe, [], 1) := fun h => if_neg h
  have hok : stripeOk s x = true ∧ ofB x nd = true ∧ apartB (movP x nd nd.index.length) = true → movedR s x nd = (movedX x nd, freeP x nd nd.index.length, 0) := fun h => if_pos h
  generalize movedR s x nd = R at *
  have HBAD := Lib.hid hbad; clear hbad
  have HOKR := Lib.hid hok; clear hok
  clear h0 h1 hp
  have hMD : MD w [.int .i64 s.K, .int .i64 s.M, .int .i64 s.size] [.int .i64 nd.stripe, .slice A0 n0 c0, .slice A1 n1 c1] x Ap np cp (.int .i64 0) (.int .i64 0) (.int .i64 0) (.slice none 0 0) ((((w.alloc (.cells #[.int .i64 s.K, .int .i64 s.M, .int .i64 s.size] 23)).alloc (.cells #[.int .i64 x.id, .int .i64 x.len, .int .i64 x.gen, .slice Ap np cp] 79)).alloc (.cells #[.int .i64 nd.stripe, .slice A0 n0 c0, .slice A1 n1 c1] 88)).alloc (.cells #[.int .i64 0, .int .i64 0, .int .i64 0, .slice none 0 0] 79)) := by
    refine ⟨?_, ?_, ?_, ?_, (by repeat' (first | (with_reducible exact Below.refl _ _) | (with_reducible refine Below.alloc ?_ ?_ _) | (with_reducible refine Below.drew ?_) | (with_reducible refine below_drewN ?_ _) | (with_reducible refine Below.setCell ?_ ?_ _) | (refine via ?_ (by with_reducible assumption) ?_) | (refine via ?_ (below_ext _ _) ?_) | go_size))⟩
    · rw [Below.heap_alloc _ _ _ (by first | (simp; done) | (simp; omega)), Below.heap_alloc _ _ _ (by first | (simp; done) | (simp; omega)), Below.heap_alloc _ _ _ (by first | (simp; done) | (simp; omega))]; exact heap_alloc_new _ _
    · rw [Below.heap_alloc _ _ _ (by first | (simp; done) | (simp; omega)), Below.heap_alloc _ _ _ (by first | (simp; done) | (simp; omega))]
      have := heap_alloc_new (w.alloc (.cells #[.int .i64 s.K, .int .i64 s.M, .int .i64 s.size] 23)) (.cells #[.int .i64 x.id, .int .i64 x.len, .int .i64 x.gen, .slice Ap np cp] 79)
      rw [World.size_alloc] at this; exact this
    · rw [Below.heap_alloc _ _ _ (by first | (simp; done) | (simp; omega))]
      have := heap_alloc_new ((w.alloc (.cells #[.int .i64 s.K, .int .i64 s.M, .int .i64 s.size] 23)).alloc (.cells #[.int .i64 x.id, .int .i64 x.len, .int .i64 x.gen, .slice Ap np cp] 79)) (.cells #[.int .i64 nd.stripe, .slice A0 n0 c0, .slice A1 n1 c1] 88)
      rw [World.size_alloc, World.size_alloc] at this; exact this
    · have := heap_alloc_new (((w.alloc (.cells #[.int .i64 s.K, .int .i64 s.M, .int .i64 s.size] 23)).alloc (.cells #[.int .i64 x.id, .int .i64 x.len, .int .i64 x.gen, .slice Ap np cp] 79)).alloc (.cells #[.int .i64 nd.stripe, .slice A0 n0 c0, .slice A1 n1 c1] 88)) (.cells #[.int .i64 0, .int .i64 0, .int .i64 0, .slice none 0 0] 79)
      rw [World.size_alloc, World.size_alloc, World.size_alloc] at this; exact this
  go_enter Try.func66, Try.ntmps66
  go_upto_region 1 with (fail)
  have HN0 := Lib.hid hMD; clear hMD
  generalize ((((w.alloc (.cells #[.int .i64 s.K, .int .i64 s.M, .int .i64 s.size] 23)).alloc (.cells #[.int .i64 x.id, .int .i64 x.len, .int .i64 x.gen, .slice Ap np cp] 79)).alloc (.cells #[.int .i64 nd.stripe, .slice A0 n0 c0, .slice A1 n1 c1] 88)).alloc (.cells #[.int .i64 0, .int .i64 0, .int .i64 0, .slice none 0 0] 79)) = W0 at *
  have ROWS := Lib.hid (fun A n c u0 u1 u2 u3 V (h : MD w [.int .i64 s.K, .int .i64 s.M, .int .i64 s.size] [.int .i64 nd.stripe, .slice A0 n0 c0, .slice A1 n1 c1] x A n c u0 u1 u2 u3 V) => (show
      (V.cell? ⟨w.heap.size, 0, none⟩ = some (.int .i64 s.K) ∧ V.cell? ⟨w.heap.size, 1, none⟩ = some (.int .i64 s.M) ∧ V.cell? ⟨w.heap.size, 2, none⟩ = some (.int .i64 s.size)) ∧
      (V.cell? ⟨w.heap.size + 2, 0, none⟩ = some (.int .i64 nd.stripe) ∧ V.cell? ⟨w.heap.size + 2, 1, none⟩ = some (.slice A0 n0 c0) ∧ V.cell? ⟨w.heap.size + 2, 2, none⟩ = some (.slice A1 n1 c1)) from
    ⟨⟨cell_of_row V _ 0 _ _ _ h.b0, cell_of_row V _ 1 _ _ _ h.b0, cell_of_row V _ 2 _ _ _ h.b0⟩, ⟨cell_of_row V _ 0 _ _ _ h.b2, cell_of_row V _ 1 _ _ _ h.b2, cell_of_row V _ 2 _ _ _ h.b2⟩⟩))
  obtain ⟨⟨k0, k1, k2⟩, ⟨y0, y1, y2⟩⟩ := ROWS.out _ _ _ _ _ _ _ _ HN0.out
  obtain ⟨x0, x1, x2, x3, _⟩ := HN0.out.c0
  go_wp2_with fail
  refine (HMAY.out _ HN0.out.below).mono ?_
  clear k0 k1 k2 x0 x1 x2 x3 y0 y1 y2
  rintro e w1 ⟨rfl, hb1⟩
  have HN1 := Lib.hid (HN0.out.all hb1); clear hb1 HN0
  cases hs1 : stripeOk s x with
  | false =>
    have HFIN : Hid (∀ W, Below w.heap.size w W → RetMoved w R (.returned (.tuple #[.agg #[.int .i64 0, .int .i64 0, .int .i64 0, .slice none 0 0], .slice none 0 0, .int .i64 1])) W) := Lib.hid (fun W hW => RetMoved.bad (HBAD.out (by rw [hs1]; simp)) hW)
    clear hs1
    have hsame : Hid ((((w1.setCell ⟨w.heap.size + 3, 0, none⟩ (.int .i64 0)).setCell ⟨w.heap.size + 3, 1, none⟩ (.int .i64 0)).setCell ⟨w.heap.size + 3, 2, none⟩ (.int .i64 0)).setCell ⟨w.heap.size + 3, 3, none⟩ (.slice none 0 0) = w1) := Lib.hid (by
      rw [setCell_same (k := 0) (v := (.int .i64 0)) HN1.out.b3 rfl, setCell_same (k := 1) (v := (.int .i64 0)) HN1.out.b3 rfl, setCell_same (k := 2) (v := (.int .i64 0)) HN1.out.b3 rfl, setCell_same (k := 3) (v := (.slice none 0 0)) HN1.out.b3 rfl])
    obtain ⟨⟨f0, f1, f2, f3⟩, f4, f5, f6, f7⟩ := HN1.out.c3
    go_wp2
    rw [hsame.out]
    refine bodyPost_ret (v := .tuple #[.agg #[.int .i64 0, .int .i64 0, .int .i64 0, .slice none 0 0], .slice none 0 0, .int .i64 1]) (by simp [results, Try.results66, go_sem, *]; done) rfl ?_
    exact HFIN.out _ HN1.out.below
  | true =>
    have HS1 := Lib.hid hs1; clear hs1
    obtain ⟨⟨k0, k1, k2⟩, ⟨y0, y1, y2⟩⟩ := ROWS.out _ _ _ _ _ _ _ _ HN1.out
    obtain ⟨x0, x1, x2, x3, _⟩ := HN1.out.c0
    go_wp2_with fail
    refine (HOF.out _ HN1.out.below).mono ?_
    clear k0 k1 k2 x0 x1 x2 x3 y0 y1 y2
    rintro e w2 ⟨rfl, hb2⟩
    have HN2 := Lib.hid (HN1.out.all hb2); clear hb2 HN1
    cases hs2 : ofB x nd with
    | false =>
      have HFIN : Hid (∀ W, Below w.heap.size w W → RetMoved w R (.returned (.tuple #[.agg #[.int .i64 0, .int .i64 0, .int .i64 0, .slice none 0 0], .slice none 0 0, .int .i64 1])) W) := Lib.hid (fun W hW => RetMoved.bad (HBAD.out (by rw [hs2]; simp)) hW)
      clear hs2
      have hsame : Hid ((((w2.setCell ⟨w.heap.size + 3, 0, none⟩ (.int .i64 0)).setCell ⟨w.heap.size + 3, 1, none⟩ (.int .i64 0)).setCell ⟨w.heap.size + 3, 2, none⟩ (.int .i64 0)).setCell ⟨w.heap.size + 3, 3, none⟩ (.slice none 0 0) = w2) := Lib.hid (by
        rw [setCell_same (k := 0) (v := (.int .i64 0)) HN2.out.b3 rfl, setCell_same (k := 1) (v := (.int .i64 0)) HN2.out.b3 rfl, setCell_same (k := 2) (v := (.int .i64 0)) HN2.out.b3 rfl, setCell_same (k := 3) (v := (.slice none 0 0)) HN2.out.b3 rfl])
      obtain ⟨⟨f0, f1, f2, f3⟩, f4, f5, f6, f7⟩ := HN2.out.c3
      go_wp2
      rw [hsame.out]
      refine bodyPost_ret (v := .tuple #[.agg #[.int .i64 0, .int .i64 0, .int .i64 0, .slice none 0 0], .slice none 0 0, .int .i64 1]) (by simp [results, Try.results66, go_sem, *]; done) rfl ?_
      exact HFIN.out _ HN2.out.below
    | true =>
      have HS2 := Lib.hid hs2
      have HIX := Lib.hid (ofB_parts hs2); clear hs2
      have hnp := stripeOk_np HS1.out
      rw [HLP.out] at hnp
      obtain ⟨hnp1, hnp2⟩ := hnp
      have hn01 : n0 = n1 := by have := HIX.out.1; have := HL0.out; have := HL1.out; omega
      subst hn01
      obtain ⟨x0, x1, x2, x3, _⟩ := HN2.out.c0
      go_wp2_with fail
      refine (Clone_slot (HP.out w2 HN2.out.below) (by omega)).mono ?_
      clear x0 x1 x2 x3
      rintro e w3 ⟨A9, c9, rfl, hown, hb3⟩
      rw [HLP.out] at hown ⊢
      obtain ⟨g, rfl, hg, hgl⟩ := hown.form (by omega)
      have s2 := HN2.out.hi
      have HN3 := Lib.hid (HN2.out.all hb3); clear hb3
      obtain ⟨_, _, _, x3, x4⟩ := HN3.out.c0
      have hML : ML w x nd 0 g np c9 none 0 (w3.setCell ⟨w.heap.size + 1, 3, none⟩ (.slice (some ⟨g, 0, none⟩) np c9)) := ⟨(hown.form_lt (base' := w.heap.size + 4) (by omega)).slots.frame (Agree.setCell (fun hh => by rcases hh with hh | hh; exact hh; injection hh with hh; have : w.heap.size + 1 = g := hh; omega) _) (by simp), Own.nil_, by simp [ablk]⟩
      have HN4 := Lib.hid (HN3.out.st1 (A' := some ⟨g, 0, none⟩) (n' := np) (c' := c9))
      have HM4 := Lib.hid hML; clear hML hown hg hgl s2
      go_upto_region 4 with (fail)
      clear x3 x4
      generalize w3.setCell ⟨w.heap.size + 1, 3, none⟩ (.slice (some ⟨g, 0, none⟩) np c9) = w4 at *
      clear HN3 HN2
      obtain ⟨_, y0, y1, y2⟩ := ROWS.out _ _ _ _ _ _ _ _ HN4.out
      go_wp2_with fail
      clear y0 y1 y2
      go_loopw [29, 7] (fun i f wr => ∃ k : Nat, ∃ F d, k ≤ n0 ∧ i = .int .i64 k ∧ f = .slice F (freeP x nd k).length d ∧ Hid (MD w [.int .i64 s.K, .int .i64 s.M, .int .i64 s.size] [.int .i64 nd.stripe, .slice A0 n0 c0, .slice A1 n0 c1] x (some ⟨g, 0, none⟩) np c9 (.int .i64 0) (.int .i64 0) (.int .i64 0) (.slice none 0 0) wr) ∧ Hid (ML w x nd k g np c9 F d wr)) (fun i _ _ => n0 - (intOf i).toNat)
      case atStart => exact ⟨0, none, 0, Nat.zero_le _, rfl, rfl, HN4, HM4⟩
      case round =>
        clear HN4 HM4
        obtain ⟨k, F, d, hk, rfl, rfl, HN, HM⟩ := hrel
        by_cases hlt : k < n0
        · have hat := HIX.out.2 k (by have := HL0.out; omega)
          obtain ⟨iN, hiN, hiL⟩ := ofAt_idx hat
          rw [HLP.out] at hiL
          obtain ⟨bi, oi, rfl, _, hbi, _, hci, _⟩ := (HI.out wr HN.out.below).int_at hlt
          rw [hiN] at hci
          obtain ⟨bt, ot, rfl, _, hbt, pt1, pt2, hct0, hct1, _⟩ := (HTO.out wr HN.out.below).slot_at (show k < n0 by omega)
          obtain ⟨bg, og, e, _, hbg, pq1, pq2, hcq0, hcq1, hfq0, hfq1⟩ := (HM.out.a.sl (tg := true)).slot_at hiL
          injection e with e; injection e with e1 e2; subst e1 e2
          simp only [Nat.zero_add] at hcq0 hcq1 hfq0 hfq1
          have hF1 : freeP x nd (k + 1) = freeP x nd k ++ if ((movP x nd k).getD iN default).disk = -1 then [] else [(movP x nd k).getD iN default] := by
            show freeP x nd k ++ (if ((movP x nd k).getD (nd.index.getD k 0).toNat default).disk = -1 then [] else [(movP x nd k).getD (nd.index.getD k 0).toNat default]) = _
            rw [hiN]; rfl
          have hfl := freeP_le x nd k
          have hk14 : k < 14 := by have := ofB_few HIX.out.2 (k := k) (by have := HL0.out; omega); have := HLP.out; omega
          have HNX := Lib.hid (fun V F9 d9 (h1 : Own 104 slotE V (w.heap.size + 4) (fun _ => False) (some ⟨g, 0, none⟩) np c9 (movP x nd k)) (h2 : Own 104 slotE V (w.heap.size + 4) (fun _ => False) F9 (freeP x nd (k + 1)).length d9 (freeP x nd (k + 1))) (h3 : ablk F9 ≠ some g) => (show ML w x nd (k + 1) g np c9 F9 d9 ((V.setCell ⟨g, iN * 2, none⟩ (.int .i64 (nd.to.getD k default).disk)).setCell ⟨g, iN * 2 + 1, none⟩ (.int .i64 (nd.to.getD k default).pos)) from mlNext h1 hiN hiL ⟨pt1, pt2⟩ h2 h3))
          have HTC := Lib.hid (fun V (hV : Below w.heap.size w V) => (show V.cell? ⟨bt, ot + k * 2, none⟩ = some (.int .i64 (nd.to.getD k default).disk) ∧ V.cell? ⟨bt, ot + k * 2 + 1, none⟩ = some (.int .i64 (nd.to.getD k default).pos) from by
            obtain ⟨b', o', e, _, _, _, _, h0, h1, _⟩ := (HTO.out V hV).slot_at (show k < n0 by omega)
            injection e with e; injection e with e1 e2; subst e1 e2; exact ⟨h0, h1⟩))
          have hg4 := HM.out.lo
          generalize nd.to.getD k default = p at *
          generalize (movP x nd k).getD iN default = q at *
          have HF1 := Lib.hid hF1; clear hF1 hat hiN
          obtain ⟨_, y0, y1, y2⟩ := ROWS.out _ _ _ _ _ _ _ _ HN.out
          obtain ⟨_, _, _, x3, _⟩ := HN.out.c0
          go_upto_if 40 with (fail)
          go_cut [7] from 40 to 48 (fun s7 V => ∃ F9 d9, s7 = .slice F9 (freeP x nd (k + 1)).length d9 ∧ Hid (MD w [.int .i64 s.K, .int .i64 s.M, .int .i64 s.size] [.int .i64 nd.stripe, .slice (some ⟨bi, oi, none⟩) n0 c0, .slice (some ⟨bt, ot, none⟩) n0 c1] x (some ⟨g, 0, none⟩) np c9 (.int .i64 0) (.int .i64 0) (.int .i64 0) (.slice none 0 0) V) ∧ Hid (Own 104 slotE V (w.heap.size + 4) (fun _ => False) (some ⟨g, 0, none⟩) np c9 (movP x nd k)) ∧ Hid (Own 104 slotE V (w.heap.size + 4) (fun _ => False) F9 (freeP x nd (k + 1)).length d9 (freeP x nd (k + 1))) ∧ Hid (ablk F9 ≠ some g))
          case first =>
            by_cases hd : q.disk = -1
            · have hF2 : freeP x nd (k + 1) = freeP x nd k := by rw [HF1.out, if_pos hd, List.append_nil]
              have HF2 := Lib.hid hF2; clear hF2
              have hq : (q.disk != -1) = false := by simp [hd]
              clear hd hcq0 hcq1 hfq0 hfq1 hct0 hct1
              go_wp2
              go_meet
              case rel => exact ⟨F, d, by rw [HF2.out], HN, Lib.hid HM.out.a, by rw [HF2.out]; exact Lib.hid HM.out.b, Lib.hid HM.out.ne⟩
            · have hF2 : freeP x nd (k + 1) = freeP x nd k ++ [q] := by rw [HF1.out, if_neg hd]
              have HF2 := Lib.hid hF2; clear hF2
              have hq : (q.disk != -1) = true := by simp [hd]
              have hal : Below wr.heap.size wr (wr.alloc (.cells #[.int .i64 q.disk, .int .i64 q.pos] 104)) := (Below.refl _ _).alloc (Nat.le_refl _) _
              have HB2 := Lib.hid (HM.out.b.all hal)
              have HA2 := Lib.hid (HM.out.a.all hal)
              have HN2 := Lib.hid (HN.out.all hal)
              have hw4 := HN2.out.hi
              clear hal
              go_wp2_with (at_builtin; refine wpList_append1 rfl _ _ 71 rfl i0 (.agg #[.int .i64 0, .int .i64 0]) 16 Try.underlying71 hi0 hz0 hz1 hz2 rfl (by decide) rfl HB2.out wr.heap.size 104 1 _ q rfl (heap_alloc_new _ _) ⟨rfl, pq1, pq2⟩ (by omega) (by omega) (by omega) ?_)
              intro A5 c5 w5 hown5 hg5 hat5
              have hne5 : ablk A5 ≠ some g := fun e => by
                rcases hat5 with ha | ha
                · exact HM.out.ne (ha ▸ e)
                · rw [ha] at e; injection e with e; first | omega | (simp at e; omega)
              have ha5 := HA2.out.frame (w' := w5) (Agree.grown hg5 (fun b hb e => by
                rcases hb with hb | hb
                · exact hb
                · exact HM.out.ne (e.symm.trans hb))) hg5.size
              have HN5 := Lib.hid (HN2.out.grown hg5 (fun r hr => (HM.out.b.lt r hr).1))
              have HA5 := Lib.hid ha5
              have HE5 := Lib.hid hne5
              have HO5 : Hid (Own 104 slotE w5 (w.heap.size + 4) (fun _ => False) A5 (freeP x nd (k + 1)).length c5 (freeP x nd (k + 1)) ∧ (freeP x nd k).length + 1 = (freeP x nd (k + 1)).length) := Lib.hid (by rw [HF2.out, List.length_append]; exact ⟨hown5, rfl⟩)
              clear ha5 hne5 hown5 hg5 hat5 HB2 HA2 HN2 hw4
              go_wp2
              go_meet
              case rel => exact ⟨A5, c5, by rw [← HO5.out.2], HN5, HA5, Lib.hid HO5.out.1, HE5⟩
          case rest =>
            obtain ⟨F9, d9, rfl, HN9, HA9, HB9, HE9⟩ := hcut
            clear hcq0 hcq1 hfq0 hfq1 hct0 hct1 y0 y1 y2 x3 hci HN HM
            have hdd : Below wc.heap.size wc wc.drew := (Below.refl _ _).drew
            have HN10 := Lib.hid (HN9.out.all hdd)
            have HMN := Lib.hid (HNX.out wc.drew F9 d9 (HA9.out.all hdd) (HB9.out.all hdd) HE9.out)
            have HMD := Lib.hid ((HN10.out.set (a := ⟨g, iN * 2, none⟩) hg4.1 (.int .i64 p.disk)).set (a := ⟨g, iN * 2 + 1, none⟩) hg4.1 (.int .i64 p.pos))
            obtain ⟨bg, og, e, _, hbg, _, _, hcq0, hcq1, hfq0, hfq1⟩ := ((HA9.out.all hdd).sl (tg := true)).slot_at hiL
            injection e with e; injection e with e1 e2; subst e1 e2
            simp only [Nat.zero_add] at hcq0 hcq1 hfq0 hfq1
            generalize ((movP x nd k).getD iN default) = q at *
            clear hdd HNX HF1 HN9 HA9 HB9 HE9
            go_wp2_with fail
            refine region_free (by kernel_rfl) (by kernel_rfl) 66 rfl [49, 50, 51, 52, 53, 54, 55, 56, 57] [9] []
              [(49, [], fun _ => .pointer (some ⟨w.heap.size + 1, 3, none⟩)), (50, [], fun _ => .slice (some ⟨g, 0, none⟩) np c9), (51, [], fun _ => .int .i64 (iN : Int)), (52, [], fun _ => .pointer (some ⟨w.heap.size + 2, 2, none⟩)), (53, [], fun _ => .slice (some ⟨bt, ot, none⟩) n0 c1), (54, [], fun _ => .int .i64 (k : Int)), (55, [], fun _ => .pointer (some ⟨bt, ot + k * 2, none⟩)), (56, [], fun _ => .agg #[.int .i64 p.disk, .int .i64 p.pos]), (57, [], fun _ => .pointer (some ⟨g, iN * 2, none⟩))]
              [[9], [9], [9], [9], [9], [9], [9], [9], [9]] [] [[], [49], [], [], [52], [], [53, 54], [55], [50, 51], [56, 57]] (Wd1 wc.drew 9 ((wc.drew.setCell ⟨g, iN * 2, none⟩ (.int .i64 p.disk)).setCell ⟨g, iN * 2 + 1, none⟩ (.int .i64 p.pos))) (by kernel_rfl) .pre ⟨?_, ?_, ?_, ?_, ?_, ?_, ?_, ?_, ?_, ?_, trivial⟩ ?_
            · (refine OpH.rd rfl rfl (fun ρ us w6 ho ht hc hl hsrc hW => ?_); have e4 := (ho 4 rfl).trans (show _ = (.pointer (some ⟨w.heap.size + 1, 0, none⟩) : Value) from rfl); clear ht ho; simp only [execOp, e4]; go_simp; try rfl)
            · (refine OpH.rd rfl rfl (fun ρ us w6 ho ht hc hl hsrc hW => ?_); have e49 := (ht 49 (by decide)).trans (show _ = (.pointer (some ⟨w.heap.size + 1, 3, none⟩) : Value) from rfl); obtain ⟨rfl, rfl⟩ := hW.early (hl 9 (by decide)); obtain ⟨_, _, _, x3, _⟩ := HN10.out.c0; clear ht ho; simp only [execOp, e49]; go_simp; try rfl)
            · (refine OpH.rd rfl rfl (fun ρ us w6 ho ht hc hl hsrc hW => ?_); have e10 := (ho 10 rfl).trans (show _ = (.int .i64 (iN : Int) : Value) from rfl); clear ht ho; simp only [execOp, e10]; go_simp; try rfl)
            · (refine OpH.rd rfl rfl (fun ρ us w6 ho ht hc hl hsrc hW => ?_); have e5 := (ho 5 rfl).trans (show _ = (.pointer (some ⟨w.heap.size + 2, 0, none⟩) : Value) from rfl); clear ht ho; simp only [execOp, e5]; go_simp; try rfl)
            · (refine OpH.rd rfl rfl (fun ρ us w6 ho ht hc hl hsrc hW => ?_); have e52 := (ht 52 (by decide)).trans (show _ = (.pointer (some ⟨w.heap.size + 2, 2, none⟩) : Value) from rfl); obtain ⟨rfl, rfl⟩ := hW.early (hl 9 (by decide)); obtain ⟨_, y0, y1, y2⟩ := ROWS.out _ _ _ _ _ _ _ _ HN10.out; clear ht ho; simp only [execOp, e52]; go_simp; try rfl)
            · (refine OpH.rd rfl rfl (fun ρ us w6 ho ht hc hl hsrc hW => ?_); have e9 := (ho 9 rfl).trans (show _ = (.int .i64 (k : Int) : Value) from rfl); clear ht ho; simp only [execOp, e9]; go_simp; try rfl)
            · (refine OpH.rd rfl rfl (fun ρ us w6 ho ht hc hl hsrc hW => ?_); have e53 := (ht 53 (by decide)).trans (show _ = (.slice (some ⟨bt, ot, none⟩) n0 c1 : Value) from rfl); have e54 := (ht 54 (by decide)).trans (show _ = (.int .i64 (k : Int) : Value) from rfl); clear ht ho; simp only [execOp, e53, e54]; go_simp; try rfl)
            · (refine OpH.rd rfl rfl (fun ρ us w6 ho ht hc hl hsrc hW => ?_); have e55 := (ht 55 (by decide)).trans (show _ = (.pointer (some ⟨bt, ot + k * 2, none⟩) : Value) from rfl); obtain ⟨rfl, rfl⟩ := hW.early (hl 9 (by decide)); obtain ⟨y0, y1⟩ := HTC.out _ HN10.out.below; clear ht ho; simp only [execOp, e55]; go_simp; try rfl)
            · (refine OpH.rd rfl rfl (fun ρ us w6 ho ht hc hl hsrc hW => ?_); have e50 := (ht 50 (by decide)).trans (show _ = (.slice (some ⟨g, 0, none⟩) np c9 : Value) from rfl); have e51 := (ht 51 (by decide)).trans (show _ = (.int .i64 (iN : Int) : Value) from rfl); clear ht ho; simp only [execOp, e50, e51]; go_simp; try rfl)
            · refine OpH.wr rfl (fun Z us w6 ho ht hni hlim hreq hW K hK => ?_)
              obtain ⟨rfl, ew⟩ := hW.early hni
              rw [← ew] at hcq0 hcq1 hfq0 hfq1
              have e56 := (ht 56 (by decide)).trans (show _ = (.agg #[.int .i64 p.disk, .int .i64 p.pos] : Value) from rfl)
              have e57 := (ht 57 (by decide)).trans (show _ = (.pointer (some ⟨g, iN * 2, none⟩) : Value) from rfl)
              have HK : Hid (K (Z.put none undef) ((w6.setCell ⟨g, iN * 2, none⟩ (.int .i64 p.disk)).setCell ⟨g, iN * 2 + 1, none⟩ (.int .i64 p.pos))) := Lib.hid (by rw [ew]; exact hK undef _ .post)
              clear hK hW hni hlim hreq ho ht ew
              rw [if_pos (by simp [Region.wanted])]
              unfold Oper.wp
              generalize Z.eval = ρ at *
              simp only [execOp, e56, e57]
              go_simp
              exact HK.out
            · intro us w9 hmem hW
              obtain rfl := hW.done (hmem 9 (by decide))
              simp only [putAll, List.map_cons, List.map_nil, List.foldl_cons, List.foldl_nil, Act.put, List.setIfInBounds_toArray, List.set_cons_succ, List.set_cons_zero]
              clear hmem hW hcq0 hcq1 hfq0 hfq1
              generalize ((wc.drew.setCell ⟨g, iN * 2, none⟩ (.int .i64 p.disk)).setCell ⟨g, iN * 2 + 1, none⟩ (.int .i64 p.pos)) = w9 at *
              generalize hsv : slotAt _ _ us = sv
              clear hsv
              go_wp2
              go_roundw
              case rel => exact ⟨k + 1, F9, d9, by omega, by go_num, rfl, HMD, HMN⟩
              case measure => simp [intOf]; omega
        · obtain rfl : k = n0 := by omega
          have HQ := Lib.hid (apart_c (HM.out.a.sl (tg := true)))
          obtain ⟨x0, x1, x2, x3, _⟩ := HN.out.c0
          go_wp2_with fail
          refine HQ.out.mono ?_
          clear HQ x0 x1 x2 x3
          rintro e w6 ⟨rfl, hb6⟩
          have HN6 := Lib.hid (HN.out.all hb6); clear HN
          have HM6 := Lib.hid (HM.out.all hb6); clear HM hb6
          cases hbq : apartB (movP x nd k) with
          | false =>
            have HFIN : Hid (∀ W, Below w.heap.size w W → RetMoved w R (.returned (.tuple #[.agg #[.int .i64 0, .int .i64 0, .int .i64 0, .slice none 0 0], .slice none 0 0, .int .i64 1])) W) := Lib.hid (fun W hW => RetMoved.bad (HBAD.out (by rw [HL0.out, hbq]; simp)) hW)
            clear hbq
            have hsame : Hid ((((w6.setCell ⟨w.heap.size + 3, 0, none⟩ (.int .i64 0)).setCell ⟨w.heap.size + 3, 1, none⟩ (.int .i64 0)).setCell ⟨w.heap.size + 3, 2, none⟩ (.int .i64 0)).setCell ⟨w.heap.size + 3, 3, none⟩ (.slice none 0 0) = w6) := Lib.hid (by
              rw [setCell_same (k := 0) (v := (.int .i64 0)) HN6.out.b3 rfl, setCell_same (k := 1) (v := (.int .i64 0)) HN6.out.b3 rfl, setCell_same (k := 2) (v := (.int .i64 0)) HN6.out.b3 rfl, setCell_same (k := 3) (v := (.slice none 0 0)) HN6.out.b3 rfl])
            obtain ⟨⟨f0, f1, f2, f3⟩, f4, f5, f6, f7⟩ := HN6.out.c3
            go_wp2
            rw [hsame.out]
            refine bodyPost_ret (v := .tuple #[.agg #[.int .i64 0, .int .i64 0, .int .i64 0, .slice none 0 0], .slice none 0 0, .int .i64 1]) (by simp [results, Try.results66, go_sem, *]; done) rfl ?_
            exact HFIN.out _ HN6.out.below
          | true =>
            have HRR := Lib.hid (HOKR.out ⟨HS1.out, HS2.out, by rw [HL0.out]; exact hbq⟩); clear hbq
            obtain ⟨x0, x1, x2, x3, _⟩ := HN6.out.c0
            obtain ⟨⟨f0, f1, f2, f3⟩, f4, f5, f6, f7⟩ := HN6.out.c3
            have hz6 := HN6.out.hi
            have hg6 := HM6.out.lo
            have hlt6 := fun r hr => (HM6.out.b.lt r hr).1
            have hk : Keeps (fun b => w.heap.size + 4 ≤ b) w6 ((((w6.setCell ⟨w.heap.size + 3, 0, none⟩ (.int .i64 x.id)).setCell ⟨w.heap.size + 3, 1, none⟩ (.int .i64 x.len)).setCell ⟨w.heap.size + 3, 2, none⟩ (.int .i64 x.gen)).setCell ⟨w.heap.size + 3, 3, none⟩ (.slice (some ⟨g, 0, none⟩) np c9)) := (by repeat' (first | (with_reducible exact Keeps.refl _ _) | (with_reducible refine Keeps.alloc ?_ _) | (with_reducible refine Keeps.drew ?_) | (with_reducible refine Keeps.drewN ?_ _) | (with_reducible refine Keeps.setCell ?_ ?_ _) | (refine Keeps.call ?_ (by with_reducible assumption)) | (with_reducible refine Keeps.ext ?_ _) | (simp; done) | (simp; omega) | omega))
            have HFIN : Hid (RetMoved w R (.returned (.tuple #[.agg #[.int .i64 x.id, .int .i64 x.len, .int .i64 x.gen, .slice (some ⟨g, 0, none⟩) np c9], .slice F (freeP x nd k).length d, .int .i64 0])) ((((w6.setCell ⟨w.heap.size + 3, 0, none⟩ (.int .i64 x.id)).setCell ⟨w.heap.size + 3, 1, none⟩ (.int .i64 x.len)).setCell ⟨w.heap.size + 3, 2, none⟩ (.int .i64 x.gen)).setCell ⟨w.heap.size + 3, 3, none⟩ (.slice (some ⟨g, 0, none⟩) np c9))) := Lib.hid (by
              rw [HRR.out]
              unfold movedX
              rw [HL0.out]
              exact ⟨_, _, _, _, _, _, rfl, (((HM6.out.a.sl (tg := true)).mono (S' := fun b => w.heap.size + 4 ≤ b) (fun b hb _ => by rcases hb with hb | hb; exact hb.elim; exact hb)).keep hk).mono (fun b hb _ => by have : w.heap.size + 4 ≤ b := hb; omega), (((HM6.out.b.sl (tg := true)).mono (S' := fun b => w.heap.size + 4 ≤ b) (fun b hb _ => by rcases hb with hb | hb; exact hb.elim; exact hb)).keep hk).mono (fun b hb _ => by have : w.heap.size + 4 ≤ b := hb; omega), ((((HN6.out.below.setCell (by show w.heap.size ≤ w.heap.size + 3; omega) _).setCell (by show w.heap.size ≤ w.heap.size + 3; omega) _).setCell (by show w.heap.size ≤ w.heap.size + 3; omega) _).setCell (by show w.heap.size ≤ w.heap.size + 3; omega) _)⟩)
            have hrow : ((((w6.setCell ⟨w.heap.size + 3, 0, none⟩ (.int .i64 x.id)).setCell ⟨w.heap.size + 3, 1, none⟩ (.int .i64 x.len)).setCell ⟨w.heap.size + 3, 2, none⟩ (.int .i64 x.gen)).setCell ⟨w.heap.size + 3, 3, none⟩ (.slice (some ⟨g, 0, none⟩) np c9)).heap[w.heap.size + 3]? = some (.cells #[.int .i64 x.id, .int .i64 x.len, .int .i64 x.gen, .slice (some ⟨g, 0, none⟩) np c9] 79 (0, 0)) := by
              have := HN6.out.b3
              simp [World.setCell, Array.getElem?_modify, this]
            clear hk hlt6
            go_wp2
            have q0 := cell_of_row _ _ 0 _ _ _ hrow
            have q1 := cell_of_row _ _ 1 _ _ _ hrow
            have q2 := cell_of_row _ _ 2 _ _ _ hrow
            have q3 := cell_of_row _ _ 3 _ _ _ hrow
            clear hrow f0 f1 f2 f3 f4 f5 f6 f7 x0 x1 x2 x3
            generalize ((((w6.setCell ⟨w.heap.size + 3, 0, none⟩ (.int .i64 x.id)).setCell ⟨w.heap.size + 3, 1, none⟩ (.int .i64 x.len)).setCell ⟨w.heap.size + 3, 2, none⟩ (.int .i64 x.gen)).setCell ⟨w.heap.size + 3, 3, none⟩ (.slice (some ⟨g, 0, none⟩) np c9)) = w7 at *
            refine bodyPost_ret (v := .tuple #[.agg #[.int .i64 x.id, .int .i64 x.len, .int .i64 x.gen, .slice (some ⟨g, 0, none⟩) np c9], .slice F (freeP x nd k).length d, .int .i64 0]) (by simp [results, Try.results66, go_sem, *]; done) rfl ?_
            exact HFIN.out
end Go.Proofs.Ytfccghfcilccfaa
