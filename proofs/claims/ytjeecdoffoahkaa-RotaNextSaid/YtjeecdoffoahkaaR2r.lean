/- fit.stripes: the slots of one stripe behind the other, for whoever ranges over it. -/
import Derived.RangeFuncNested
import Derived.RangeFuncLeaves
import Derived.RangeFuncCalls
import Derived.Test.YtjeecdoffoahkaaS9r
import Derived.OwnWalkIn
import Derived.TacticsInMore
import Derived.LoopNIn
import Derived.LoopIn
import Derived.WalkKit
import Derived.Shelf.Abstract
import Derived.Shelf.RegionOpen
-- from R1
namespace Go.Silo
open Go Go.RowKit

/-- The loop's record, by its state. -/
def recAt (fn : FuncId) (tmps : Array Value) (ps : Array Tmp) (assign body : Code) (D : Nat) (st : LoopState) (pe : Option Code) : Loop :=
  { state := st, pending := pe, fn := fn, tmps := tmps, params := ps, assign := assign, body := body, defers := D }
/-- The loop's two blocks of book-keeping. -/
def BookAt (R : LoopState → Option Code → Loop) (B : Nat) (st : LoopState) (pe : Option Code) (W : World) : Prop :=
  W.heap[B + 1]? = some (.loop (R st pe)) ∧ W.heap[B]? = some (.deferred (some []))
section
variable {fn : FuncId} {tmps : Array Value} {ps : Array Tmp} {assign body : Code} {D B : Nat} {st : LoopState} {pe : Option Code} {W : World}
theorem BookAt.turn (h : BookAt (recAt fn tmps ps assign body D) B st pe W) (st' : LoopState) (pe' : Option Code) :
    BookAt (recAt fn tmps ps assign body D) B st' pe' (W.putObj (B + 1) (.loop (recAt fn tmps ps assign body D st' pe'))) :=
  ⟨World.putObj_heap_same (Array.getElem?_eq_some_iff.1 h.1).1, (World.putObj_heap_other (by omega)).trans h.2⟩
theorem BookAt.keeps {W' : World} (h : BookAt (recAt fn tmps ps assign body D) B st pe W) (k : ∀ (k : Nat) (o : Obj), B ≤ k → W.heap[k]? = some o → o.isCells = false → W'.heap[k]? = some o) :
    BookAt (recAt fn tmps ps assign body D) B st pe W' := ⟨k _ _ (by omega) h.1 rfl, k _ _ (Nat.le_refl _) h.2 rfl⟩
end

theorem rangeFunc_state {α : Type} {F : Fence} {n : Nat} {P : Program} {g : Operand} {ps : Array Tmp} {assign body : Code} {Q : Exit → Act → World → Prop} {a : Act} {w : World}
    (hro : F.round = none) (h1 : 1 ≤ n) {gf : Nat} {lb : Array Value} (hg : a.eval g = .func (.func gf) #[] lb) (hF : F.fn gf) (eg : ∀ args w, (callFunc gf args).run P w = .ok (.enter gf args) w)
    {encs : α → Array Value} (hps : ∀ x, (encs x).size = ps.size) (St Kp : World → World → Prop) (G : List α → α → World → Prop)
    (I : List α → World → Prop) (Ix : Code → List α → World → Prop)
    (hSt : ∀ A B, St A B → ∀ (k : Nat) (o : Obj), w.heap.size ≤ k → A.heap[k]? = some o → o.isCells = false → B.heap[k]? = some o)
    (hKt : ∀ {A B C : World}, Kp A B → Kp B C → Kp A C) (hKb : ∀ (W : World) (l : Nat) (o : Obj), w.heap.size ≤ l → Kp W (W.putObj l o))
    (hI : OwnFrom w.heap.size I) (hIx : ∀ c, OwnFrom w.heap.size (Ix c)) (hG : ∀ pre, OwnFrom w.heap.size (G pre)) (hIS : ∀ pre A B, I pre A → St A B → I pre B) (h0 : I [] w)
    (hseq : ∀ (l : Nat) (J Jx : List α → World → Prop) (W : World), Below w.heap.size w W → (∀ pre A B, J pre A → St A B → J pre B) → (∀ pre A, J pre A → I pre A) →
      (∀ pre x A, J pre A → G pre x A → YieldAt F (n - 1 - 1) P l (encs x) A fun e B => (e = .returned (.bool true) ∧ J (pre ++ [x]) B ∧ Kp A B) ∨ (e = .returned (.bool false) ∧ Jx (pre ++ [x]) B)) →
      J [] W → CallsIn F (n - 1) P gf (#[.func (.yield l) #[] #[]] ++ lb) W fun e B => (∃ v, e = .returned v) ∧ ∃ pre, Jx pre B)
    (a₁ : α → Act)
    (hassign : ∀ (l : Nat) (x : α) (W : World) (K : Act → World → Prop), K (a₁ x) W →
      assign.wpIn (F.inRound l) (n - 1 - 1) P (Exit.then K (fun _ _ _ => False)) { tmps := (ps.zip (encs x)).foldl (fun t (p, v) => t.setIfInBounds p v) a.tmps, defers := [] } W)
    (hbody : ∀ (l : Nat) (pre : List α) (x : α) (W : World), I pre W → G pre x W → body.wpIn (F.inRound l) (n - 1 - 1) P (ownPostG w.heap.size Kp I Ix (pre ++ [x]) W) (a₁ x) W)
    (hstop : ∀ (D : Nat) (c : Code) (pre : List α) (W : World), w.heap.size ≤ D → Ix c pre W → W.heap[D]? = some (.deferred (some [])) → c.wpIn F n P Q { a with defers := { target := .collected D, args := #[] } :: a.defers } W) :
    (Code.rangeFunc g ps assign body).wpIn F n P Q a w := by
  refine wpIn_rangeFunc fun fn hfn => ?_
  rw [hro]
  let rec_ := recAt fn a.tmps ps assign body w.heap.size
  let Wd := w.alloc (.deferred (some []))
  let W1 := Wd.alloc (.loop (rec_ .ready none))
  have hbk : BookAt rec_ w.heap.size .ready none W1 := by
    refine ⟨?_, (Below.heap_alloc _ _ _ (by simp [Wd])).trans (World.alloc_heap_new w _)⟩
    have := World.alloc_heap_new Wd (.loop (rec_ .ready none))
    rwa [show Wd.heap.size = w.heap.size + 1 from World.size_alloc _ _] at this
  have hi1 : I [] W1 := hI.alloc _ (hI.alloc _ h0)
  have hb1 : Below w.heap.size w W1 := ((Below.refl _ w).alloc (Nat.le_refl _) _).alloc (by simp) _
  refine ⟨w.heap.size + 1, [{ target := .collected w.heap.size, args := #[] }], W1, { target := .fn (.func gf) lb, args := #[.func (.yield (w.heap.size + 1)) #[] #[]] }, W1, gf,
    #[.func (.yield (w.heap.size + 1)) #[] #[]] ++ lb, W1, run_enterLoop_outer _ _ _ _ _, ?_, ?_, ?_, fun _ => h1, ?_⟩
  · simp only [resolve, hg]
    simp [go_sem]
  · intro f' hf'
    simp [Target.leads] at hf'
    subst hf'
    exact hF
  · simp [invoke, go_sem, eg]
  refine (hseq (w.heap.size + 1) (fun pre W => I pre W ∧ BookAt rec_ w.heap.size .ready none W) (fun pre W => ∃ c, Ix c pre W ∧ BookAt rec_ w.heap.size .done (some c) W) W1 hb1
    (fun pre A B h st => ⟨hIS pre A B h.1 st, h.2.keeps (hSt A B st)⟩) (fun _ _ h => h.1) ?_ ⟨hi1, hbk⟩).mono ?_
  · rintro pre x W ⟨hi, hbk⟩ hgx
    have hy := run_yield (P := P) (args := encs x) hbk.1 (hps x)
    refine ⟨fn, _, assign, body, hy, roundIn_of_wpIn hfn (hassign _ x W _ ⟨_, run_beginRound hbk.1 rfl, ?_⟩)⟩
    have hb2 := hbk.turn .busy none
    have hk2 : Kp W (W.putObj (w.heap.size + 1) (.loop (rec_ .busy none))) := hKb _ _ _ (by omega)
    refine wpIn_mono (hbody _ pre x _ (hI.putObj _ hi (by omega) hbk.1 rfl) ((hG pre).putObj _ hgx (by omega) hbk.1 rfl)) ?_
    have leave : ∀ (jump : Option Code) (W3 : World), KeepsFrom w.heap.size (W.putObj (w.heap.size + 1) (.loop (rec_ .busy none))) W3 →
        BookAt rec_ w.heap.size .busy none W3 ∧ (Instr.endRound (w.heap.size + 1) jump).run P W3 = .ok (.bool jump.isNone) (W3.putObj (w.heap.size + 1) (.loop (rec_ (if jump.isNone then .ready else .done) jump))) := fun jump W3 hk3 => by
      have hb3 : BookAt rec_ w.heap.size .busy none W3 := hb2.keeps hk3.same
      exact ⟨hb3, run_endRound (P := P) jump hb3.1⟩
    rintro e a3 W3 hp
    cases e with
    | normal =>
      obtain ⟨hk3, hkp, hi3⟩ := hp
      obtain ⟨hb3, hr⟩ := leave none W3 hk3
      exact ⟨_, _, hr, .inl ⟨rfl, ⟨hI.putObj _ hi3 (by omega) hb3.1 rfl, hb3.turn .ready none⟩, hKt (hKt hk2 hkp) (hKb _ _ _ (by omega))⟩⟩
    | ret =>
      obtain ⟨hk3, hi3⟩ := hp
      obtain ⟨hb3, hr⟩ := leave (some .ret) W3 hk3
      exact ⟨_, _, hr, .inr ⟨rfl, _, (hIx _).putObj _ hi3 (by omega) hb3.1 rfl, hb3.turn .done _⟩⟩
    | exit id =>
      obtain ⟨hk3, hi3⟩ := hp
      obtain ⟨hb3, hr⟩ := leave (some (.exit id)) W3 hk3
      exact ⟨_, _, hr, .inr ⟨rfl, _, (hIx _).putObj _ hi3 (by omega) hb3.1 rfl, hb3.turn .done _⟩⟩
    | goto t =>
      obtain ⟨hk3, hi3⟩ := hp
      obtain ⟨hb3, hr⟩ := leave (some (.goto t)) W3 hk3
      exact ⟨_, _, hr, .inr ⟨rfl, _, (hIx _).putObj _ hi3 (by omega) hb3.1 rfl, hb3.turn .done _⟩⟩
    | panic ch => exact hp.elim
    | outgrown => exact hp.elim
  · rintro e W2 ⟨⟨v, rfl⟩, pre, c, hi, hb⟩
    exact ⟨some c, _, run_endLoop (P := P) hb.1 (by simp [rec_, recAt]), hstop _ c pre _ (Nat.le_refl _) ((hIx c).putObj _ hi (by omega) hb.1 rfl) ((World.putObj_heap_other (by omega)).trans hb.2)⟩
end Go.Silo
namespace Go.Silo
open Go Go.RowKit

theorem exists_least {p : Nat → Prop} : (∃ m, p m) → ∃ m, p m ∧ ∀ k, p k → m ≤ k := by
  rintro ⟨m, hm⟩
  induction m using Nat.strongRecOn with
  | _ m ih =>
    by_cases h : ∃ k, k < m ∧ p k
    · obtain ⟨k, hk, hp⟩ := h
      exact ih k hk hp
    · exact ⟨m, hm, fun k hk => by
        rcases Nat.lt_or_ge k m with hlt | hge
        · exact absurd ⟨k, hlt, hk⟩ h
        · exact hge⟩
open Classical in
/-- The least number that a relation grants a world: a loop's measure that stands in no slot. -/
noncomputable def ghostM (R : Nat → World → Prop) (W : World) : Nat := if h : ∃ m, R m W then Classical.choose (exists_least h) else 0
theorem ghost_at {R : Nat → World → Prop} {W : World} (h : ∃ m, R m W) : ∃ m, R m W ∧ ghostM R W = m := by
  refine ⟨_, (Classical.choose_spec (exists_least h)).1, ?_⟩
  unfold ghostM
  rw [dif_pos h]
theorem ghost_le {R : Nat → World → Prop} {W : World} {m : Nat} (h : R m W) : ghostM R W ≤ m := by
  unfold ghostM
  rw [dif_pos ⟨m, h⟩]
  exact (Classical.choose_spec (exists_least ⟨m, h⟩)).2 m h
end Go.Silo
namespace Go.Proofs.Ytjeecdoffoahkaa
open Go.RowKit Go.Silo Go.Shelf
attribute [local go_sem] Oper.semAt_some

/-- What slots are behind one stripe, as long as there are some. -/
def stepX (x : SlotsD) (k : Nat) : SlotsD := if takeErr x k [] = 0 then takeX x k [] else x
def turnsX (x : SlotsD) (k : Nat) : Nat → SlotsD
  | 0 => x
  | j + 1 => stepX (turnsX x k j) k

/-- The slots that are ranged over, in their box. -/
structure XS (S : Nat → Prop) (g : Nat) (A0 : Option Addr) (n0 c0 : Nat) (A1 : Option Addr) (n1 c1 : Nat) (x : SlotsD) (W : World) : Prop where
  row : W.heap[g]? = some (.cells #[.slice A0 n0 c0, .slice A1 n1 c1] 62 (0, 0))
  live : Sl true 4 boolE W S A0 n0 c0 x.live
  free : Sl true 52 (slE true 3 intE) W S A1 n1 c1 x.free

section
variable {S : Nat → Prop} {g k : Nat} {A0 A1 : Option Addr} {n0 c0 n1 c1 : Nat} {x : SlotsD} {W W' : World}
theorem XS.all (h : XS S g A0 n0 c0 A1 n1 c1 x W) (hb : Below W.heap.size W W') : XS S g A0 n0 c0 A1 n1 c1 x W' :=
  ⟨(hb.block _ (Array.getElem?_eq_some_iff.1 h.row).1).trans h.row, h.live.all hb, h.free.all hb⟩
theorem XS.keep {S' : Nat → Prop} (h : XS S g A0 n0 c0 A1 n1 c1 x W) (hk : Keeps S' W W') (hS : ∀ b, S b ∨ b = g → S' b) : XS S g A0 n0 c0 A1 n1 c1 x W' :=
  have hk2 : Keeps S W W' := ⟨hk.1.mono (fun b hb _ => hS b (.inl hb)), hk.2⟩
  ⟨(hk.1 g (hS g (.inr rfl)) (Array.getElem?_eq_some_iff.1 h.row).1).trans h.row, h.live.keep hk2, h.free.keep hk2⟩
/-- What Some leaves is the next state. -/
theorem XS.step {e : Ending} (h : XS S g A0 n0 c0 A1 n1 c1 x W) (hp : SomePost S W x k [] A1 n1 c1 e W') :
    XS S g A0 n0 c0 A1 n1 c1 (stepX x k) W' ∧ Turns S 52 W W' := by
  rcases hp with ⟨he, _, hb⟩ | ⟨he, A, c, _, _, _, hf, ht⟩
  · unfold stepX
    rw [if_neg he]
    exact ⟨h.all hb, .of_below hb⟩
  · unfold stepX
    rw [if_pos he]
    exact ⟨⟨ht.heap h.row (by decide), ht.sl (boolE_avoids _) (by decide) h.live, hf⟩, ht⟩
end
/-- What is handed to a round. -/
def Handed (x : SlotsD) (k : Nat) (B : Nat) (pre : List (Value × Value)) (v : Value × Value) (W : World) : Prop :=
  (takeErr (turnsX x k pre.length) k [] ≠ 0 ∧ v = (.slice none 0 0, .int .i64 (takeErr (turnsX x k pre.length) k []))) ∨
  (takeErr (turnsX x k pre.length) k [] = 0 ∧ ∃ A c, v = (.slice A k c, .int .i64 0) ∧ (takeL (turnsX x k pre.length) k []).length = k ∧ Silo.Own 112 slotE W B (fun b => B ≤ b) A k c (takeL (turnsX x k pre.length) k []))

end Go.Proofs.Ytjeecdoffoahkaa
