/- A range over a function whose iterator keeps state of its own in cells that lay ahead of the loop: one law for the loop. -/
import Derived.RangeFuncNested
import Derived.RangeFuncLeaves
import Derived.RangeFuncCalls
namespace Go.Silo
open Go Go.RowKit

/-- The loop's record, by its state. -/
def recAt (fn : FuncId) (tmps : Array Value) (ps : Array Tmp) (assign body : Code) (D : Nat) (st : LoopState) (pe : Option Code) : Loop :=
  { state := st, pending := pe, fn := fn, tmps := tmps, params := ps, assign := assign, body := body, defers := D }
/-- The loop's two blocks of book-keeping. -/
def BookAt (R : LoopState → Option Code → Loop) (B : Nat) (st : LoopState) (pe : Option Code) (W : World) : Prop :=
  W.heap[B + 1]? = some (.loop (R st pe)) ∧ W.heap[B]? = some (.deferred (some []))
section
variable {fn : FuncId} {tmps : Array Value} {ps : Array Tmp} {assign body : Code} {D B : Nat} {st : LoopState} {pe : Option Code} {W : World}
theorem BookAt.turn (h : BookAt (recAt fn tmps ps assign body D) B st pe W) (st' : LoopState) (pe' : Option Code) :
    BookAt (recAt fn tmps ps assign body D) B st' pe' (W.putObj (B + 1) (.loop (recAt fn tmps ps assign body D st' pe'))) :=
  ⟨World.putObj_heap_same (Array.getElem?_eq_some_iff.1 h.1).1, (World.putObj_heap_other (by omega)).trans h.2⟩
theorem BookAt.keeps {W' : World} (h : BookAt (recAt fn tmps ps assign body D) B st pe W) (k : ∀ (k : Nat) (o : Obj), B ≤ k → W.heap[k]? = some o → o.isCells = false → W'.heap[k]? = some o) :
    BookAt (recAt fn tmps ps assign body D) B st pe W' := ⟨k _ _ (by omega) h.1 rfl, k _ _ (Nat.le_refl _) h.2 rfl⟩
end

theorem rangeFunc_state {α : Type} {F : Fence} {n : Nat} {P : Program} {g : Operand} {ps : Array Tmp} {assign body : Code} {Q : Exit → Act → World → Prop} {a : Act} {w : World}
    (hro : F.round = none) (h1 : 1 ≤ n) {gf : Nat} {lb : Array Value} (hg : a.eval g = .func (.func gf) #[] lb) (hF : F.fn gf) (eg : ∀ args w, (callFunc gf args).run P w = .ok (.enter gf args) w)
    {encs : α → Array Value} (hps : ∀ x, (encs x).size = ps.size) (St Kp : World → World → Prop) (G : List α → α → World → Prop)
    (I : List α → World → Prop) (Ix : Code → List α → World → Prop)
    (hSt : ∀ A B, St A B → ∀ (k : Nat) (o : Obj), w.heap.size ≤ k → A.heap[k]? = some o → o.isCells = false → B.heap[k]? = some o)
    (hKt : ∀ {A B C : World}, Kp A B → Kp B C → Kp A C) (hKb : ∀ (W : World) (l : Nat) (o : Obj), w.heap.size ≤ l → Kp W (W.putObj l o))
    (hI : OwnFrom w.heap.size I) (hIx : ∀ c, OwnFrom w.heap.size (Ix c)) (hG : ∀ pre, OwnFrom w.heap.size (G pre)) (hIS : ∀ pre A B, I pre A → St A B → I pre B) (h0 : I [] w)
    (hseq : ∀ (l : Nat) (J Jx : List α → World → Prop) (W : World), Below w.heap.size w W → (∀ pre A B, J pre A → St A B → J pre B) → (∀ pre A, J pre A → I pre A) →
      (∀ pre x A, J pre A → G pre x A → YieldAt F (n - 1 - 1) P l (encs x) A fun e B => (e = .returned (.bool true) ∧ J (pre ++ [x]) B ∧ Kp A B) ∨ (e = .returned (.bool false) ∧ Jx (pre ++ [x]) B)) →
      J [] W → CallsIn F (n - 1) P gf (#[.func (.yield l) #[] #[]] ++ lb) W fun e B => (∃ v, e = .returned v) ∧ ∃ pre, Jx pre B)
    (a₁ : α → Act)
    (hassign : ∀ (l : Nat) (x : α) (W : World) (K : Act → World → Prop), K (a₁ x) W →
      assign.wpIn (F.inRound l) (n - 1 - 1) P (Exit.then K (fun _ _ _ => False)) { tmps := (ps.zip (encs x)).foldl (fun t (p, v) => t.setIfInBounds p v) a.tmps, defers := [] } W)
    (hbody : ∀ (l : Nat) (pre : List α) (x : α) (W : World), I pre W → G pre x W → body.wpIn (F.inRound l) (n - 1 - 1) P (ownPostG w.heap.size Kp I Ix (pre ++ [x]) W) (a₁ x) W)
    (hstop : ∀ (D : Nat) (c : Code) (pre : List α) (W : World), w.heap.size ≤ D → Ix c pre W → W.heap[D]? = some (.deferred (some [])) → c.wpIn F n P Q { a with defers := { target := .collected D, args := #[] } :: a.defers } W) :
    (Code.rangeFunc g ps assign body).wpIn F n P Q a w := by
  refine wpIn_rangeFunc fun fn hfn => ?_
  rw [hro]
  let rec_ := recAt fn a.tmps ps assign body w.heap.size
  let Wd := w.alloc (.deferred (some []))
  let W1 := Wd.alloc (.loop (rec_ .ready none))
  have hbk : BookAt rec_ w.heap.size .ready none W1 := by
    refine ⟨?_, (Below.heap_alloc _ _ _ (by simp [Wd])).trans (World.alloc_heap_new w _)⟩
    have := World.alloc_heap_new Wd (.loop (rec_ .ready none))
    rwa [show Wd.heap.size = w.heap.size + 1 from World.size_alloc _ _] at this
  have hi1 : I [] W1 := hI.alloc _ (hI.alloc _ h0)
  have hb1 : Below w.heap.size w W1 := ((Below.refl _ w).alloc (Nat.le_refl _) _).alloc (by simp) _
  refine ⟨w.heap.size + 1, [{ target := .collected w.heap.size, args := #[] }], W1, { target := .fn (.func gf) lb, args := #[.func (.yield (w.heap.size + 1)) #[] #[]] }, W1, gf,
    #[.func (.yield (w.heap.size + 1)) #[] #[]] ++ lb, W1, run_enterLoop_outer _ _ _ _ _, ?_, ?_, ?_, fun _ => h1, ?_⟩
  · simp only [resolve, hg]
    simp [go_sem]
  · intro f' hf'
    simp [Target.leads] at hf'
    subst hf'
    exact hF
  · simp [invoke, go_sem, eg]
  refine (hseq (w.heap.size + 1) (fun pre W => I pre W ∧ BookAt rec_ w.heap.size .ready none W) (fun pre W => ∃ c, Ix c pre W ∧ BookAt rec_ w.heap.size .done (some c) W) W1 hb1
    (fun pre A B h st => ⟨hIS pre A B h.1 st, h.2.keeps (hSt A B st)⟩) (fun _ _ h => h.1) ?_ ⟨hi1, hbk⟩).mono ?_
  · rintro pre x W ⟨hi, hbk⟩ hgx
    have hy := run_yield (P := P) (args := encs x) hbk.1 (hps x)
    refine ⟨fn, _, assign, body, hy, roundIn_of_wpIn hfn (hassign _ x W _ ⟨_, run_beginRound hbk.1 rfl, ?_⟩)⟩
    have hb2 := hbk.turn .busy none
    have hk2 : Kp W (W.putObj (w.heap.size + 1) (.loop (rec_ .busy none))) := hKb _ _ _ (by omega)
    refine wpIn_mono (hbody _ pre x _ (hI.putObj _ hi (by omega) hbk.1 rfl) ((hG pre).putObj _ hgx (by omega) hbk.1 rfl)) ?_
    have leave : ∀ (jump : Option Code) (W3 : World), KeepsFrom w.heap.size (W.putObj (w.heap.size + 1) (.loop (rec_ .busy none))) W3 →
        BookAt rec_ w.heap.size .busy none W3 ∧ (Instr.endRound (w.heap.size + 1) jump).run P W3 = .ok (.bool jump.isNone) (W3.putObj (w.heap.size + 1) (.loop (rec_ (if jump.isNone then .ready else .done) jump))) := fun jump W3 hk3 => by
      have hb3 : BookAt rec_ w.heap.size .busy none W3 := hb2.keeps hk3.same
      exact ⟨hb3, run_endRound (P := P) jump hb3.1⟩
    rintro e a3 W3 hp
    cases e with
    | normal =>
      obtain ⟨hk3, hkp, hi3⟩ := hp
      obtain ⟨hb3, hr⟩ := leave none W3 hk3
      exact ⟨_, _, hr, .inl ⟨rfl, ⟨hI.putObj _ hi3 (by omega) hb3.1 rfl, hb3.turn .ready none⟩, hKt (hKt hk2 hkp) (hKb _ _ _ (by omega))⟩⟩
    | ret =>
      obtain ⟨hk3, hi3⟩ := hp
      obtain ⟨hb3, hr⟩ := leave (some .ret) W3 hk3
      exact ⟨_, _, hr, .inr ⟨rfl, _, (hIx _).putObj _ hi3 (by omega) hb3.1 rfl, hb3.turn .done _⟩⟩
    | exit id =>
      obtain ⟨hk3, hi3⟩ := hp
      obtain ⟨hb3, hr⟩ := leave (some (.exit id)) W3 hk3
      exact ⟨_, _, hr, .inr ⟨rfl, _, (hIx _).putObj _ hi3 (by omega) hb3.1 rfl, hb3.turn .done _⟩⟩
    | goto t =>
      obtain ⟨hk3, hi3⟩ := hp
      obtain ⟨hb3, hr⟩ := leave (some (.goto t)) W3 hk3
      exact ⟨_, _, hr, .inr ⟨rfl, _, (hIx _).putObj _ hi3 (by omega) hb3.1 rfl, hb3.turn .done _⟩⟩
    | panic ch => exact hp.elim
    | outgrown => exact hp.elim
  · rintro e W2 ⟨⟨v, rfl⟩, pre, c, hi, hb⟩
    exact ⟨some c, _, run_endLoop (P := P) hb.1 (by simp [rec_, recAt]), hstop _ c pre _ (Nat.le_refl _) ((hIx c).putObj _ hi (by omega) hb.1 rfl) ((World.putObj_heap_other (by omega)).trans hb.2)⟩
end Go.Silo
