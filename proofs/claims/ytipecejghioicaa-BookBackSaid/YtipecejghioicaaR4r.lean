/- Rows that stand as they stood, by their element type; what fit.Lay answers. -/
import Derived.RangeFuncNested
import Derived.RangeFuncLeaves
import Derived.RangeFuncCalls
import Derived.Test.YtipecejghioicaaS9r
import Derived.OwnWalkIn
import Derived.TacticsInMore
import Derived.LoopNIn
import Derived.LoopIn
import Derived.WalkKit
import Derived.Shelf.Abstract
import Derived.Shelf.RegionOpen
import Derived.Test.YtipecejghioicaaE1r
-- from R2r
-- from R1
namespace Go.Silo
open Go Go.RowKit

/-- The loop's record, by its state. -/
def recAt (fn : FuncId) (tmps : Array Value) (ps : Array Tmp) (assign body : Code) (D : Nat) (st : LoopState) (pe : Option Code) : Loop :=
  { state := st, pending := pe, fn := fn, tmps := tmps, params := ps, assign := assign, body := body, defers := D }
/-- The loop's two blocks of book-keeping. -/
def BookAt (R : LoopState → Option Code → Loop) (B : Nat) (st : LoopState) (pe : Option Code) (W : World) : Prop :=
  W.heap[B + 1]? = some (.loop (R st pe)) ∧ W.heap[B]? = some (.deferred (some []))
section
variable {fn : FuncId} {tmps : Array Value} {ps : Array Tmp} {assign body : Code} {D B : Nat} {st : LoopState} {pe : Option Code} {W : World}
theorem BookAt.turn (h : BookAt (recAt fn tmps ps assign body D) B st pe W) (st' : LoopState) (pe' : Option Code) :
    BookAt (recAt fn tmps ps assign body D) B st' pe' (W.putObj (B + 1) (.loop (recAt fn tmps ps assign body D st' pe'))) :=
  ⟨World.putObj_heap_same (Array.getElem?_eq_some_iff.1 h.1).1, (World.putObj_heap_other (by omega)).trans h.2⟩
end

end Go.Silo
namespace Go.Silo
open Go Go.RowKit

end Go.Silo
namespace Go.Proofs.Ytipecejghioicaa
open Go.RowKit Go.Silo Go.Shelf
attribute [local go_sem] Oper.semAt_some

/-- What slots are behind one stripe, as long as there are some. -/
def stepX (x : SlotsD) (k : Nat) : SlotsD := if takeErr x k [] = 0 then takeX x k [] else x
def turnsX (x : SlotsD) (k : Nat) : Nat → SlotsD
  | 0 => x
  | j + 1 => stepX (turnsX x k j) k

section
variable {S : Nat → Prop} {g k : Nat} {A0 A1 : Option Addr} {n0 c0 n1 c1 : Nat} {x : SlotsD} {W W' : World}
end
/-- What is handed to a round. -/
def Handed (x : SlotsD) (k : Nat) (B : Nat) (pre : List (Value × Value)) (v : Value × Value) (W : World) : Prop :=
  (takeErr (turnsX x k pre.length) k [] ≠ 0 ∧ v = (.slice none 0 0, .int .i64 (takeErr (turnsX x k pre.length) k []))) ∨
  (takeErr (turnsX x k pre.length) k [] = 0 ∧ ∃ A c, v = (.slice A k c, .int .i64 0) ∧ (takeL (turnsX x k pre.length) k []).length = k ∧ Silo.Own 67 slotE W B (fun b => B ≤ b) A k c (takeL (turnsX x k pre.length) k []))

end Go.Proofs.Ytipecejghioicaa
-- from R3
namespace Go.Silo
open Go Go.RowKit

end Go.Silo
namespace Go.Proofs.Ytipecejghioicaa
open Go.RowKit Go.Silo

/-- How many stripes a text of so many bytes takes. -/
def manyX (s : Shape) (n : Int) : Nat := ((n + s.K * s.size - 1) / (s.K * s.size)).toNat

set_option maxRecDepth 100000 in
set_option maxHeartbeats 2000000 in
theorem Many_c {w : World} {s : Shape} {n : Int} (hs : shapeOk s = true) (h0 : 0 ≤ n) (h1 : n ≤ 100000) :
    Calls Try.prog 52 #[.agg #[.int .i64 s.K, .int .i64 s.M, .int .i64 s.size], .int .i64 n] w (RetV (.int .i64 (manyX s n : Int)) w) := by
  unfold shapeOk at hs
  have hd := of_decide_eq_true hs
  clear hs
  obtain ⟨k1, k2, _, _, s1, s2⟩ := hd
  have p1 : 1 ≤ s.K * s.size := by have := Int.mul_le_mul k1 s1 (by omega) (by omega); omega
  have p2 : s.K * s.size ≤ 960 := by have := Int.mul_le_mul k2 s2 (by omega) (by omega); omega
  have hq : (manyX s n : Int) = (n + s.K * s.size - 1) / (s.K * s.size) := by
    unfold manyX
    exact Int.toNat_of_nonneg (Int.ediv_nonneg (by omega) (by omega))
  have HQ := Lib.hid hq; clear hq
  go_enter Try.func52, Try.ntmps52
  go_wp2
  go_ret
  exact ⟨by rw [HQ.out]; rfl, (by repeat' (first | (with_reducible exact Below.refl _ _) | (with_reducible refine Below.alloc ?_ ?_ _) | (with_reducible refine Below.drew ?_) | (with_reducible refine below_drewN ?_ _) | (with_reducible refine Below.setCell ?_ ?_ _) | (refine via ?_ (by with_reducible assumption) ?_) | (refine via ?_ (below_ext _ _) ?_) | go_size))⟩
end Go.Proofs.Ytipecejghioicaa
namespace Go.Silo
open Go Go.RowKit

/-- Rows whose element type meets X stand as they stood. -/
structure CK (X : TypeId → Prop) (W W' : World) : Prop where
  size : W.heap.size ≤ W'.heap.size
  row : ∀ (b : Nat) (cs : Array Value) (T : TypeId) (fr : Nat × Nat), X T → W.heap[b]? = some (.cells cs T fr) → W'.heap[b]? = some (.cells cs T fr)
section
variable {X Y : TypeId → Prop} {W W' W'' : World} {S : Nat → Prop} {T : TypeId}
theorem CK.refl (X : TypeId → Prop) (W : World) : CK X W W := ⟨Nat.le_refl _, fun _ _ _ _ _ h => h⟩
theorem CK.trans (h : CK X W W') (k : CK X W' W'') : CK X W W'' := ⟨Nat.le_trans h.size k.size, fun b cs T fr hT hb => k.row b cs T fr hT (h.row b cs T fr hT hb)⟩
theorem CK.mono (h : CK X W W') (hX : ∀ T, Y T → X T) : CK Y W W' := ⟨h.size, fun b cs T fr hT hb => h.row b cs T fr (hX T hT) hb⟩
theorem CK.of_grown {B : Nat} {row : Option Nat} (hg : W.grownBy W' row) (hr : ∀ r, row = some r → B ≤ r ∧ ∃ o : Obj, W.heap[r]? = some o ∧ o.isCells = false) : CK X W W' :=
  ⟨hg.size, fun b cs T fr _ h => (hg.block b (Array.getElem?_eq_some_iff.1 h).1 (fun e => by
    obtain ⟨_, o, ho, hc⟩ := hr b e.symm
    rw [h] at ho; injection ho with ho; subst ho
    cases hc)).trans h⟩
theorem CK.of_below (h : Below W.heap.size W W') : CK X W W' := ⟨h.size, fun b _ _ _ _ hb => (h.block b (Array.getElem?_eq_some_iff.1 hb).1).trans hb⟩
theorem CK.grown {row : Option Nat} (hg : W.grownBy W' row) (hr : ∀ r, row = some r → ∃ k, W.shape? r = some (T, k)) (hX : ¬ X T) : CK X W W' :=
  ⟨hg.size, fun b cs T' fr hT h => (hg.block b (Array.getElem?_eq_some_iff.1 h).1 (fun e => by
    obtain ⟨k, hk⟩ := hr b e.symm
    rw [shape_of_cells h] at hk; injection hk with hk; injection hk with hk _
    exact hX (hk ▸ hT))).trans h⟩
theorem CK.setCell {p : Addr} {k : Nat} (hs : W.shape? p.block = some (T, k)) (hX : ¬ X T) (v : Value) : CK X W (W.setCell p v) :=
  ⟨by simp, fun b cs T' fr hT h => (Below.heap_setCell W p v b (fun e => by
    subst e
    rw [shape_of_cells h] at hs; injection hs with hs; injection hs with hs _
    exact hX (hs ▸ hT))).trans h⟩
/-- What is encoded reads as it did. -/
def Enc.CKeeps {α : Type} (E : Enc α) (X : TypeId → Prop) : Prop := ∀ {W W' : World} {S : Nat → Prop} {vs : List Value} {x : α}, CK X W W' → E.R W S vs x → E.R W' S vs x
theorem CKeeps.flat {α : Type} {sz : Nat} {f : α → List Value} {ok : α → Prop} {hl : ∀ x, (f x).length = sz} {h1 : ∀ x, ∀ v ∈ f x, v.oneCell' = true} : (flat sz f ok hl h1).CKeeps X := fun _ h => h
theorem cells_of_shape {b q : Nat} (h : W.shape? b = some (T, q)) : ∃ cs fr, W.heap[b]? = some (.cells cs T fr) := by
  unfold World.shape? at h
  split at h
  · rename_i c elem fr hh
    injection h with h; injection h with h _; subst h
    exact ⟨_, _, hh⟩
  · cases h
theorem CK.shape (h : CK X W W') {b q : Nat} (hT : X T) (hs : W.shape? b = some (T, q)) : W'.heap[b]? = W.heap[b]? := by
  obtain ⟨cs, fr, hb⟩ := cells_of_shape hs
  rw [hb]; exact h.row _ _ _ _ hT hb
theorem Sl.ck {α : Type} {E : Enc α} {A : Option Addr} {n c : Nat} {xs : List α} (hE : E.CKeeps X) (hT : X T) (h : Sl true T E W S A n c xs) (hk : CK X W W') : Sl true T E W' S A n c xs := by
  obtain ⟨h1, h2, h3, h4⟩ := h
  refine ⟨h1, h2, h3, fun hn => ?_⟩
  obtain ⟨b, off, e, hb, hlt, ht, hx⟩ := h4 hn
  obtain ⟨q, hq⟩ := ht rfl
  have hbl := hk.shape hT hq
  refine ⟨b, off, e, hb, Nat.lt_of_lt_of_le hlt hk.size, fun _ => ⟨q, by rw [shape_of_block hbl]; exact hq⟩, fun k x hx' => ?_⟩
  obtain ⟨vs, hv, hc⟩ := hx k x hx'
  refine ⟨vs, hE hk hv, fun j v hj => ?_⟩
  rw [World.cell?_of_block (w := W) (a := ⟨b, _, none⟩) hbl, World.frozen?_of_block (w := W) (a := ⟨b, _, none⟩) hbl]
  exact hc j v hj
theorem CKeeps.slE {α : Type} {E : Enc α} (hE : E.CKeeps X) (hT : X T) : (slE true T E).CKeeps X := by
  rintro W W' S vs x hk ⟨A, n, c, rfl, h⟩
  exact ⟨A, n, c, rfl, h.ck hE hT hk⟩
theorem Own.ck {α : Type} {E : Enc α} {base : Nat} {A : Option Addr} {n c : Nat} {xs : List α} (hE : E.CKeeps X) (hT : X T) (h : Silo.Own T E W base S A n c xs) (hk : CK X W W') : Silo.Own T E W' base S A n c xs := by
  obtain ⟨cells, ho, hl, hx⟩ := h
  refine ⟨cells, ⟨ho.1, ?_⟩, hl, fun k x h => hE hk (hx k x h)⟩
  rcases ho.2 with h | ⟨g, cap, cur, hv, hb, hh, r⟩
  · exact .inl h
  · exact .inr ⟨g, cap, cur, hv, hb, hk.row _ _ _ _ hT hh, r⟩
/-- The block that a call owns bears the element type. -/
theorem Own.shape {α : Type} {E : Enc α} {base : Nat} {A : Option Addr} {n c : Nat} {xs : List α} (h : Silo.Own T E W base S A n c xs) : ∀ r, ablk A = some r → ∃ k, W.shape? r = some (T, k) := by
  obtain ⟨cells, ho, _⟩ := h
  intro r hr
  rcases ho.2 with ⟨hv, _⟩ | ⟨g, cap, cur, hv, hb, hh, _⟩
  · injection hv with h1 h2 h3; subst h1; cases hr
  · injection hv with h1 h2 h3; subst h1; simp only [ablk, Option.map_some] at hr; injection hr with hr; subst hr
    exact ⟨_, shape_of_cells hh⟩
end

/-- What a round's own steps do: only rows that are cells, of a type beyond X and no block of Z, are turned. -/
structure BK (B : Nat) (Z : Nat → Prop) (X : TypeId → Prop) (W W' : World) : Prop where
  kf : KeepsFrom B W W'
  kp : Keeps Z W W'
  ck : CK X W W'
section
variable {B : Nat} {Z : Nat → Prop} {X : TypeId → Prop} {W W' W'' : World}
theorem BK.refl (B : Nat) (Z : Nat → Prop) (X : TypeId → Prop) (W : World) : BK B Z X W W := ⟨.refl _ _, .refl _ _, .refl _ _⟩
theorem BK.grown {row : Option Nat} (h : BK B Z X W W') (hg : W'.grownBy W'' row) (hr : ∀ r, row = some r → (∃ T k, W'.shape? r = some (T, k) ∧ ¬ X T) ∧ ¬ Z r) : BK B Z X W W'' := by
  refine ⟨h.kf.trans ⟨hg.size, fun k o _ hk ho => (hg.block k (Array.getElem?_eq_some_iff.1 hk).1 (fun e => ?_)).trans hk⟩, ⟨h.kp.1.trans h.kp.2 (Agree.grown hg fun b hb e => (hr b e.symm).2 hb), Nat.le_trans h.kp.2 hg.size⟩, h.ck.trans ⟨hg.size, fun b cs T fr hT hb => (hg.block b (Array.getElem?_eq_some_iff.1 hb).1 (fun e => ?_)).trans hb⟩⟩
  · obtain ⟨⟨T, q, hq, _⟩, _⟩ := hr k e.symm
    obtain ⟨cs, fr, hh⟩ := cells_of_shape hq
    rw [hk] at hh; injection hh with hh; subst hh
    cases ho
  · obtain ⟨⟨T', q, hq, hX⟩, _⟩ := hr b e.symm
    rw [shape_of_cells hb] at hq; injection hq with hq; injection hq with hq _
    exact hX (hq ▸ hT)
theorem BK.alloc (h : BK B Z X W W') (o : Obj) : BK B Z X W (W'.alloc o) := h.grown (World.grownBy_alloc W' o none) (fun r e => by cases e)
theorem BK.drew (h : BK B Z X W W') : BK B Z X W W'.drew := ⟨⟨h.kf.size, h.kf.same⟩, h.kp.drew, ⟨h.ck.size, h.ck.row⟩⟩
theorem BK.setCell (h : BK B Z X W W') {p : Addr} {T : TypeId} {k : Nat} (hs : W'.shape? p.block = some (T, k)) (hX : ¬ X T) (hZ : ¬ Z p.block) (v : Value) : BK B Z X W (W'.setCell p v) := by
  refine h.grown (row := some p.block) ⟨rfl, rfl, rfl, by simp, fun j _ hj => Below.heap_setCell W' p v j (fun e => hj (by rw [e]))⟩ (fun r e => ?_)
  injection e with e; subst e
  exact ⟨⟨T, k, hs, hX⟩, hZ⟩
end
end Go.Silo
namespace Go.Proofs.Ytipecejghioicaa
open Go.RowKit Go.Silo Go.Shelf

section
variable {S : Nat → Prop} {g k : Nat} {A0 A1 : Option Addr} {n0 c0 n1 c1 : Nat} {x : SlotsD} {W W' : World}
theorem Handed.ck {X : TypeId → Prop} {B : Nat} {pre : List (Value × Value)} {v : Value × Value} (h : Handed x k B pre v W) (hk : CK X W W') (h1 : X 67) : Handed x k B pre v W' := by
  rcases h with h | ⟨a, A, c, e, l, o⟩
  · exact .inl h
  · exact .inr ⟨a, A, c, e, l, o.ck CKeeps.flat h1 hk⟩
end
end Go.Proofs.Ytipecejghioicaa
