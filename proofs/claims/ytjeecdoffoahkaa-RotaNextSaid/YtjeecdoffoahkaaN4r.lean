/- rota.may, Round, round, Next, Fair: the pieces in turn. Printed by gen_n4.py. -/
import Derived.Test.YtjeecdoffoahkaaN3r
import Derived.Test.YtjeecdoffoahkaaQ10r
import Derived.Test.YtjeecdoffoahkaaR2r
import Derived.Test.YtjeecdoffoahkaaR4r
namespace Go.Silo
open Go Go.RowKit

/-- As rangeFunc_state; the iterator may come to its own end too. -/
theorem rangeFunc_done {α : Type} {F : Fence} {n : Nat} {P : Program} {g : Operand} {ps : Array Tmp} {assign body : Code} {Q : Exit → Act → World → Prop} {a : Act} {w : World}
    (hro : F.round = none) (h1 : 1 ≤ n) {gf : Nat} {lb : Array Value} (hg : a.eval g = .func (.func gf) #[] lb) (hF : F.fn gf) (eg : ∀ args w, (callFunc gf args).run P w = .ok (.enter gf args) w)
    {encs : α → Array Value} (hps : ∀ x, (encs x).size = ps.size) (St Kp : World → World → Prop) (G : List α → α → World → Prop) (Dn : List α → Prop)
    (I : List α → World → Prop) (Ix : Code → List α → World → Prop)
    (hSt : ∀ A B, St A B → ∀ (k : Nat) (o : Obj), w.heap.size ≤ k → A.heap[k]? = some o → o.isCells = false → B.heap[k]? = some o)
    (hKt : ∀ {A B C : World}, Kp A B → Kp B C → Kp A C) (hKb : ∀ (W : World) (l : Nat) (o o' : Obj), w.heap.size ≤ l → W.heap[l]? = some o' → o'.isCells = false → Kp W (W.putObj l o))
    (hI : OwnFrom w.heap.size I) (hIx : ∀ c, OwnFrom w.heap.size (Ix c)) (hG : ∀ pre, OwnFrom w.heap.size (G pre)) (hIS : ∀ pre A B, I pre A → St A B → I pre B) (h0 : I [] w)
    (hseq : ∀ (l : Nat) (J Jx : List α → World → Prop) (W : World), Below w.heap.size w W → (∀ pre A B, J pre A → St A B → J pre B) → (∀ pre A, J pre A → I pre A) →
      (∀ pre x A, J pre A → G pre x A → YieldAt F (n - 1 - 1) P l (encs x) A fun e B => (e = .returned (.bool true) ∧ J (pre ++ [x]) B ∧ Kp A B) ∨ (e = .returned (.bool false) ∧ Jx (pre ++ [x]) B)) →
      J [] W → CallsIn F (n - 1) P gf (#[.func (.yield l) #[] #[]] ++ lb) W fun e B => (∃ v, e = .returned v) ∧ ((∃ pre, Jx pre B) ∨ ∃ pre, J pre B ∧ Dn pre))
    (a₁ : α → World → Act) (AW : α → World → World) (Aft : α → World → World → Prop)
    (hAWI : ∀ pre x W, I pre W → I pre (AW x W)) (hAWG : ∀ pre x W, G pre x W → G pre x (AW x W)) (hAWK : ∀ x W, w.heap.size ≤ W.heap.size → Kp W (AW x W))
    (hAWB : ∀ (x : α) (W : World) (k : Nat) (o : Obj), W.heap[k]? = some o → o.isCells = false → (AW x W).heap[k]? = some o) (hAft : ∀ x W0, OwnFrom w.heap.size (fun (_ : Unit) => Aft x W0)) (hAft0 : ∀ x W0, w.heap.size ≤ W0.heap.size → Aft x W0 (AW x W0))
    (hassign : ∀ (l : Nat) (x : α) (W : World) (K : Act → World → Prop), K (a₁ x W) (AW x W) →
      assign.wpIn (F.inRound l) (n - 1 - 1) P (Exit.then K (fun _ _ _ => False)) { tmps := (ps.zip (encs x)).foldl (fun t (p, v) => t.setIfInBounds p v) a.tmps, defers := [] } W)
    (hbody : ∀ (l : Nat) (pre : List α) (x : α) (W0 W : World), I pre W → G pre x W → Aft x W0 W → body.wpIn (F.inRound l) (n - 1 - 1) P (ownPostG w.heap.size Kp I Ix (pre ++ [x]) W) (a₁ x W0) W)
    (hdone : ∀ (D : Nat) (pre : List α) (W : World), w.heap.size ≤ D → I pre W → Dn pre → W.heap[D]? = some (.deferred (some [])) → Q .normal { a with defers := { target := .collected D, args := #[] } :: a.defers } W)
    (hstop : ∀ (D : Nat) (c : Code) (pre : List α) (W : World), w.heap.size ≤ D → Ix c pre W → W.heap[D]? = some (.deferred (some [])) → c.wpIn F n P Q { a with defers := { target := .collected D, args := #[] } :: a.defers } W) :
    (Code.rangeFunc g ps assign body).wpIn F n P Q a w := by
  refine wpIn_rangeFunc fun fn hfn => ?_
  rw [hro]
  let rec_ := recAt fn a.tmps ps assign body w.heap.size
  let Wd := w.alloc (.deferred (some []))
  let W1 := Wd.alloc (.loop (rec_ .ready none))
  have hbk : BookAt rec_ w.heap.size .ready none W1 := by
    refine ⟨?_, (Below.heap_alloc _ _ _ (by simp [Wd])).trans (World.alloc_heap_new w _)⟩
    have := World.alloc_heap_new Wd (.loop (rec_ .ready none))
    rwa [show Wd.heap.size = w.heap.size + 1 from World.size_alloc _ _] at this
  have hi1 : I [] W1 := hI.alloc _ (hI.alloc _ h0)
  have hb1 : Below w.heap.size w W1 := ((Below.refl _ w).alloc (Nat.le_refl _) _).alloc (by simp) _
  refine ⟨w.heap.size + 1, [{ target := .collected w.heap.size, args := #[] }], W1, { target := .fn (.func gf) lb, args := #[.func (.yield (w.heap.size + 1)) #[] #[]] }, W1, gf,
    #[.func (.yield (w.heap.size + 1)) #[] #[]] ++ lb, W1, run_enterLoop_outer _ _ _ _ _, ?_, ?_, ?_, fun _ => h1, ?_⟩
  · simp only [resolve, hg]
    simp [go_sem]
  · intro f' hf'
    simp [Target.leads] at hf'
    subst hf'
    exact hF
  · simp [invoke, go_sem, eg]
  refine (hseq (w.heap.size + 1) (fun pre W => I pre W ∧ BookAt rec_ w.heap.size .ready none W) (fun pre W => ∃ c, Ix c pre W ∧ BookAt rec_ w.heap.size .done (some c) W) W1 hb1
    (fun pre A B h st => ⟨hIS pre A B h.1 st, h.2.keeps (hSt A B st)⟩) (fun _ _ h => h.1) ?_ ⟨hi1, hbk⟩).mono ?_
  · rintro pre x W0 ⟨hi0, hbk0⟩ hgx0
    have hy := run_yield (P := P) (args := encs x) hbk0.1 (hps x)
    have hbk := hbk0.keeps (W' := AW x W0) (fun k o _ ho hc => hAWB x W0 k o ho hc)
    have hi := hAWI pre x W0 hi0
    have hgx := hAWG pre x W0 hgx0
    have hkx := hAWK x W0 (by have := (Array.getElem?_eq_some_iff.1 hbk0.2).1; omega)
    have haf := hAft0 x W0 (by have := (Array.getElem?_eq_some_iff.1 hbk0.2).1; omega)
    refine ⟨fn, _, assign, body, hy, roundIn_of_wpIn hfn (hassign _ x W0 _ ⟨_, run_beginRound hbk.1 rfl, ?_⟩)⟩
    generalize AW x W0 = W at *
    have hb2 := hbk.turn .busy none
    have hk2 : Kp W (W.putObj (w.heap.size + 1) (.loop (rec_ .busy none))) := hKb _ _ _ _ (by omega) hbk.1 rfl
    refine wpIn_mono (hbody _ pre x W0 _ (hI.putObj _ hi (by omega) hbk.1 rfl) ((hG pre).putObj _ hgx (by omega) hbk.1 rfl) ((hAft x W0).putObj (s := ()) _ haf (by omega) hbk.1 rfl)) ?_
    have leave : ∀ (jump : Option Code) (W3 : World), KeepsFrom w.heap.size (W.putObj (w.heap.size + 1) (.loop (rec_ .busy none))) W3 →
        BookAt rec_ w.heap.size .busy none W3 ∧ (Instr.endRound (w.heap.size + 1) jump).run P W3 = .ok (.bool jump.isNone) (W3.putObj (w.heap.size + 1) (.loop (rec_ (if jump.isNone then .ready else .done) jump))) := fun jump W3 hk3 => by
      have hb3 : BookAt rec_ w.heap.size .busy none W3 := hb2.keeps hk3.same
      exact ⟨hb3, run_endRound (P := P) jump hb3.1⟩
    rintro e a3 W3 hp
    cases e with
    | normal =>
      obtain ⟨hk3, hkp, hi3⟩ := hp
      obtain ⟨hb3, hr⟩ := leave none W3 hk3
      exact ⟨_, _, hr, .inl ⟨rfl, ⟨hI.putObj _ hi3 (by omega) hb3.1 rfl, hb3.turn .ready none⟩, hKt hkx (hKt (hKt hk2 hkp) (hKb _ _ _ _ (by omega) hb3.1 rfl))⟩⟩
    | ret =>
      obtain ⟨hk3, hi3⟩ := hp
      obtain ⟨hb3, hr⟩ := leave (some .ret) W3 hk3
      exact ⟨_, _, hr, .inr ⟨rfl, _, (hIx _).putObj _ hi3 (by omega) hb3.1 rfl, hb3.turn .done _⟩⟩
    | exit id =>
      obtain ⟨hk3, hi3⟩ := hp
      obtain ⟨hb3, hr⟩ := leave (some (.exit id)) W3 hk3
      exact ⟨_, _, hr, .inr ⟨rfl, _, (hIx _).putObj _ hi3 (by omega) hb3.1 rfl, hb3.turn .done _⟩⟩
    | goto t =>
      obtain ⟨hk3, hi3⟩ := hp
      obtain ⟨hb3, hr⟩ := leave (some (.goto t)) W3 hk3
      exact ⟨_, _, hr, .inr ⟨rfl, _, (hIx _).putObj _ hi3 (by omega) hb3.1 rfl, hb3.turn .done _⟩⟩
    | panic ch => exact hp.elim
    | outgrown => exact hp.elim
  · rintro e W2 ⟨⟨v, rfl⟩, ⟨pre, c, hi, hb⟩ | ⟨pre, ⟨hi, hb⟩, hdn⟩⟩
    · exact ⟨some c, _, run_endLoop (P := P) hb.1 (by simp [rec_, recAt]), hstop _ c pre _ (Nat.le_refl _) ((hIx c).putObj _ hi (by omega) hb.1 rfl) ((World.putObj_heap_other (by omega)).trans hb.2)⟩
    · exact ⟨none, _, run_endLoop (P := P) hb.1 (by simp [rec_, recAt]), hdone _ pre _ (Nat.le_refl _) (hI.putObj _ hi (by omega) hb.1 rfl) hdn ((World.putObj_heap_other (by omega)).trans hb.2)⟩
end Go.Silo
namespace Go.Proofs.Ytjeecdoffoahkaa
open Go.RowKit Go.Silo Go.Shelf

theorem bookOk_shape {s : Shape} {b : Book} (h : bookOk s b = true) : shapeOk s = true := by
  unfold bookOk at h
  rw [Bool.and_eq_true] at h
  exact h.1
theorem bookOk_stripes {s : Shape} {b : Book} (h : bookOk s b = true) : stripesOk s b.next b.stripes = true := by
  unfold bookOk at h
  simp only [Bool.and_eq_true] at h
  exact h.2.2.1
set_option maxRecDepth 100000 in
set_option maxHeartbeats 4000000 in
theorem may_c {tg tg0 tg1 tg2 : Bool} {S : Nat → Prop} {w : World} {A0 A1 A2 : Option Addr} {n0 c0 n1 c1 n2 c2 : Nat} {s : Shape} {b : Book} {c : Cursor} (hsi : I64 s.K ∧ I64 s.M ∧ I64 s.size) (hf : Few b) (h : BookR w S tg tg0 tg1 tg2 A0 n0 c0 A1 n1 c1 A2 n2 c2 b) :
    Calls Try.prog 72 #[.agg #[.int .i64 s.K, .int .i64 s.M, .int .i64 s.size], .agg #[.slice A0 n0 c0, .slice A1 n1 c1, .slice A2 n2 c2, .int .i64 b.next], .agg #[.int .i64 c.stripe, .int .i64 c.index]] w (RetV (.bool (bookOk s b && cursorOk s c)) w) := by
  have HM := Lib.hid (fun W (hW : Below w.heap.size w W) => May_c (w := W) hsi hf (h.all hW)); clear h hf hsi
  have HK := Lib.hid (fun (h : bookOk s b = true) => shapeOk_K (bookOk_shape h))
  have HC : Hid (cursorOk s c = (decide (-1 ≤ c.stripe) && (decide (c.stripe ≤ 1073741824) && (decide (-1 ≤ c.index) && decide (c.index < s.K + s.M))))) := Lib.hid (by
    unfold cursorOk; rw [Bool.eq_iff_iff]; simp; omega)
  generalize bookOk s b = q at *
  generalize cursorOk s c = R at *
  have hal : Below w.heap.size w (((w.alloc (.cells #[.int .i64 s.K, .int .i64 s.M, .int .i64 s.size] 23)).alloc (.cells #[.slice A0 n0 c0, .slice A1 n1 c1, .slice A2 n2 c2, .int .i64 b.next] 28)).alloc (.cells #[.int .i64 c.stripe, .int .i64 c.index] 44)) := (by repeat' (first | (with_reducible exact Below.refl _ _) | (with_reducible refine Below.alloc ?_ ?_ _) | (with_reducible refine Below.drew ?_) | (with_reducible refine below_drewN ?_ _) | (with_reducible refine Below.setCell ?_ ?_ _) | (refine via ?_ (by with_reducible assumption) ?_) | (refine via ?_ (below_ext _ _) ?_) | go_size))
  have hr0 : (((w.alloc (.cells #[.int .i64 s.K, .int .i64 s.M, .int .i64 s.size] 23)).alloc (.cells #[.slice A0 n0 c0, .slice A1 n1 c1, .slice A2 n2 c2, .int .i64 b.next] 28)).alloc (.cells #[.int .i64 c.stripe, .int .i64 c.index] 44)).heap[w.heap.size]? = some (.cells #[.int .i64 s.K, .int .i64 s.M, .int .i64 s.size] 23 (0, 0)) := by
    rw [Below.heap_alloc _ _ _ (by simp; try omega), Below.heap_alloc _ _ _ (by simp; try omega)]
    have := heap_alloc_new w (.cells #[.int .i64 s.K, .int .i64 s.M, .int .i64 s.size] 23)
    simpa only [World.size_alloc] using this
  have hr1 : (((w.alloc (.cells #[.int .i64 s.K, .int .i64 s.M, .int .i64 s.size] 23)).alloc (.cells #[.slice A0 n0 c0, .slice A1 n1 c1, .slice A2 n2 c2, .int .i64 b.next] 28)).alloc (.cells #[.int .i64 c.stripe, .int .i64 c.index] 44)).heap[w.heap.size + 1]? = some (.cells #[.slice A0 n0 c0, .slice A1 n1 c1, .slice A2 n2 c2, .int .i64 b.next] 28 (0, 0)) := by
    rw [Below.heap_alloc _ _ _ (by simp; try omega)]
    have := heap_alloc_new (w.alloc (.cells #[.int .i64 s.K, .int .i64 s.M, .int .i64 s.size] 23)) (.cells #[.slice A0 n0 c0, .slice A1 n1 c1, .slice A2 n2 c2, .int .i64 b.next] 28)
    simpa only [World.size_alloc] using this
  have hr2 : (((w.alloc (.cells #[.int .i64 s.K, .int .i64 s.M, .int .i64 s.size] 23)).alloc (.cells #[.slice A0 n0 c0, .slice A1 n1 c1, .slice A2 n2 c2, .int .i64 b.next] 28)).alloc (.cells #[.int .i64 c.stripe, .int .i64 c.index] 44)).heap[w.heap.size + 1 + 1]? = some (.cells #[.int .i64 c.stripe, .int .i64 c.index] 44 (0, 0)) := by
    have := heap_alloc_new ((w.alloc (.cells #[.int .i64 s.K, .int .i64 s.M, .int .i64 s.size] 23)).alloc (.cells #[.slice A0 n0 c0, .slice A1 n1 c1, .slice A2 n2 c2, .int .i64 b.next] 28)) (.cells #[.int .i64 c.stripe, .int .i64 c.index] 44)
    simpa only [World.size_alloc] using this
  have hz : w.heap.size + 1 + 1 < (((w.alloc (.cells #[.int .i64 s.K, .int .i64 s.M, .int .i64 s.size] 23)).alloc (.cells #[.slice A0 n0 c0, .slice A1 n1 c1, .slice A2 n2 c2, .int .i64 b.next] 28)).alloc (.cells #[.int .i64 c.stripe, .int .i64 c.index] 44)).heap.size := by simp
  go_enter Try.func72, Try.ntmps72
  go_upto_region 1 with (fail)
  generalize (((w.alloc (.cells #[.int .i64 s.K, .int .i64 s.M, .int .i64 s.size] 23)).alloc (.cells #[.slice A0 n0 c0, .slice A1 n1 c1, .slice A2 n2 c2, .int .i64 b.next] 28)).alloc (.cells #[.int .i64 c.stripe, .int .i64 c.index] 44)) = W0 at *
  have HAL := Lib.hid (fun V (hV : Below W0.heap.size W0 V) => hal.trans (hV.mono hal.size)); clear hal
  have ROW := Lib.hid (fun V (hV : Below W0.heap.size W0 V) => (show V.heap[w.heap.size]? = some (.cells #[.int .i64 s.K, .int .i64 s.M, .int .i64 s.size] 23 (0, 0)) ∧ V.heap[w.heap.size + 1]? = some (.cells #[.slice A0 n0 c0, .slice A1 n1 c1, .slice A2 n2 c2, .int .i64 b.next] 28 (0, 0)) ∧ V.heap[w.heap.size + 1 + 1]? = some (.cells #[.int .i64 c.stripe, .int .i64 c.index] 44 (0, 0)) from ⟨(hV.block _ (by omega)).trans hr0, (hV.block _ (by omega)).trans hr1, (hV.block _ (by omega)).trans hr2⟩))
  clear hr0 hr1 hr2
  obtain ⟨r0, r1, r2⟩ := ROW.out W0 (Below.refl _ _)
  have b00 := (cell_of_row _ _ 0 _ _ _ r0).trans (show _ = some (.int .i64 s.K : Value) from rfl)
  have b01 := (cell_of_row _ _ 1 _ _ _ r0).trans (show _ = some (.int .i64 s.M : Value) from rfl)
  have b02 := (cell_of_row _ _ 2 _ _ _ r0).trans (show _ = some (.int .i64 s.size : Value) from rfl)
  have b10 := (cell_of_row _ _ 0 _ _ _ r1).trans (show _ = some (.slice _ n0 c0 : Value) from rfl)
  have b11 := (cell_of_row _ _ 1 _ _ _ r1).trans (show _ = some (.slice _ n1 c1 : Value) from rfl)
  have b12 := (cell_of_row _ _ 2 _ _ _ r1).trans (show _ = some (.slice _ n2 c2 : Value) from rfl)
  have b13 := (cell_of_row _ _ 3 _ _ _ r1).trans (show _ = some (.int .i64 b.next : Value) from rfl)
  clear r0 r1 r2
  go_wp2_with fail
  refine (HM.out _ (HAL.out _ (Below.refl _ _))).mono ?_
  clear b00 b01 b02 b10 b11 b12 b13
  rintro e w1 ⟨rfl, hb1⟩
  have HB1 := Lib.hid hb1; clear hb1
  cases q with
  | false =>
    go_wp2
    go_ret
    exact ⟨by rfl, HAL.out _ HB1.out⟩
  | true =>
    obtain ⟨k1, k2, m1, m2, _, _⟩ := HK.out (by trivial)
    obtain ⟨r0, r1, r2⟩ := ROW.out w1 HB1.out
    have b20 := (cell_of_row _ _ 0 _ _ _ r2).trans (show _ = some (.int .i64 c.stripe : Value) from rfl)
    have b21 := (cell_of_row _ _ 1 _ _ _ r2).trans (show _ = some (.int .i64 c.index : Value) from rfl)
    have b00 := (cell_of_row _ _ 0 _ _ _ r0).trans (show _ = some (.int .i64 s.K : Value) from rfl)
    have b01 := (cell_of_row _ _ 1 _ _ _ r0).trans (show _ = some (.int .i64 s.M : Value) from rfl)
    clear r0 r1 r2
    by_cases g1 : -1 ≤ c.stripe
    · by_cases g2 : c.stripe ≤ 1073741824
      · by_cases g3 : -1 ≤ c.index
        · have HE : Hid (R = decide (c.index < s.K + s.M)) := Lib.hid (by rw [HC.out, decide_eq_true g1, decide_eq_true g2, decide_eq_true g3]; rfl)
          go_wp2
          go_ret
          exact ⟨by rw [HE.out]; rfl, HAL.out _ HB1.out⟩
        · have HE : Hid (R = false) := Lib.hid (by rw [HC.out, decide_eq_true g1, decide_eq_true g2, decide_eq_false g3]; rfl)
          go_wp2
          go_ret
          exact ⟨by rw [HE.out]; rfl, HAL.out _ HB1.out⟩
      · have HE : Hid (R = false) := Lib.hid (by rw [HC.out, decide_eq_true g1, decide_eq_false g2]; rfl)
        go_wp2
        go_ret
        exact ⟨by rw [HE.out]; rfl, HAL.out _ HB1.out⟩
    · have HE : Hid (R = false) := Lib.hid (by rw [HC.out, decide_eq_false g1]; rfl)
      go_wp2
      go_ret
      exact ⟨by rw [HE.out]; rfl, HAL.out _ HB1.out⟩
/-- How many pieces a round has, and the error. -/
def roundR (s : Shape) (b : Book) : Int × Int := if bookOk s b = true then ((b.stripes.length : Int) * (s.K + s.M), 0) else (0, 1)
set_option maxRecDepth 100000 in
set_option maxHeartbeats 4000000 in
theorem Round_c {tg tg0 tg1 tg2 : Bool} {S : Nat → Prop} {w : World} {A0 A1 A2 : Option Addr} {n0 c0 n1 c1 n2 c2 : Nat} {s : Shape} {b : Book} (hsi : I64 s.K ∧ I64 s.M ∧ I64 s.size) (hf : Few b) (h : BookR w S tg tg0 tg1 tg2 A0 n0 c0 A1 n1 c1 A2 n2 c2 b) :
    Calls Try.prog 12 #[.agg #[.int .i64 s.K, .int .i64 s.M, .int .i64 s.size], .agg #[.slice A0 n0 c0, .slice A1 n1 c1, .slice A2 n2 c2, .int .i64 b.next]] w (RetV (.tuple #[.int .i64 (roundR s b).1, .int .i64 (roundR s b).2]) w) := by
  have HM := Lib.hid (fun W (hW : Below w.heap.size w W) => May_c (w := W) hsi hf (h.all hW))
  have hn0 : n0 ≤ 4000 := by have := hf.st; have := h.st.len; omega
  have HL := Lib.hid h.st.len
  clear h hf hsi
  have HK := Lib.hid (fun (h : bookOk s b = true) => shapeOk_K (bookOk_shape h))
  have HR : Hid (roundR s b = if bookOk s b = true then ((n0 : Int) * (s.K + s.M), 0) else (0, 1)) := Lib.hid (by unfold roundR; rw [HL.out])
  generalize bookOk s b = q at *
  generalize roundR s b = R at *
  have hal : Below w.heap.size w ((w.alloc (.cells #[.int .i64 s.K, .int .i64 s.M, .int .i64 s.size] 23)).alloc (.cells #[.slice A0 n0 c0, .slice A1 n1 c1, .slice A2 n2 c2, .int .i64 b.next] 28)) := (by repeat' (first | (with_reducible exact Below.refl _ _) | (with_reducible refine Below.alloc ?_ ?_ _) | (with_reducible refine Below.drew ?_) | (with_reducible refine below_drewN ?_ _) | (with_reducible refine Below.setCell ?_ ?_ _) | (refine via ?_ (by with_reducible assumption) ?_) | (refine via ?_ (below_ext _ _) ?_) | go_size))
  have hr0 : ((w.alloc (.cells #[.int .i64 s.K, .int .i64 s.M, .int .i64 s.size] 23)).alloc (.cells #[.slice A0 n0 c0, .slice A1 n1 c1, .slice A2 n2 c2, .int .i64 b.next] 28)).heap[w.heap.size]? = some (.cells #[.int .i64 s.K, .int .i64 s.M, .int .i64 s.size] 23 (0, 0)) := by
    rw [Below.heap_alloc _ _ _ (by simp; try omega)]
    have := heap_alloc_new w (.cells #[.int .i64 s.K, .int .i64 s.M, .int .i64 s.size] 23)
    simpa only [World.size_alloc] using this
  have hr1 : ((w.alloc (.cells #[.int .i64 s.K, .int .i64 s.M, .int .i64 s.size] 23)).alloc (.cells #[.slice A0 n0 c0, .slice A1 n1 c1, .slice A2 n2 c2, .int .i64 b.next] 28)).heap[w.heap.size + 1]? = some (.cells #[.slice A0 n0 c0, .slice A1 n1 c1, .slice A2 n2 c2, .int .i64 b.next] 28 (0, 0)) := by
    have := heap_alloc_new (w.alloc (.cells #[.int .i64 s.K, .int .i64 s.M, .int .i64 s.size] 23)) (.cells #[.slice A0 n0 c0, .slice A1 n1 c1, .slice A2 n2 c2, .int .i64 b.next] 28)
    simpa only [World.size_alloc] using this
  have hz : w.heap.size + 1 < ((w.alloc (.cells #[.int .i64 s.K, .int .i64 s.M, .int .i64 s.size] 23)).alloc (.cells #[.slice A0 n0 c0, .slice A1 n1 c1, .slice A2 n2 c2, .int .i64 b.next] 28)).heap.size := by simp
  go_enter Try.func12, Try.ntmps12
  go_upto_region 1 with (fail)
  generalize ((w.alloc (.cells #[.int .i64 s.K, .int .i64 s.M, .int .i64 s.size] 23)).alloc (.cells #[.slice A0 n0 c0, .slice A1 n1 c1, .slice A2 n2 c2, .int .i64 b.next] 28)) = W0 at *
  have HAL := Lib.hid (fun V (hV : Below W0.heap.size W0 V) => hal.trans (hV.mono hal.size)); clear hal
  have ROW := Lib.hid (fun V (hV : Below W0.heap.size W0 V) => (show V.heap[w.heap.size]? = some (.cells #[.int .i64 s.K, .int .i64 s.M, .int .i64 s.size] 23 (0, 0)) ∧ V.heap[w.heap.size + 1]? = some (.cells #[.slice A0 n0 c0, .slice A1 n1 c1, .slice A2 n2 c2, .int .i64 b.next] 28 (0, 0)) from ⟨(hV.block _ (by omega)).trans hr0, (hV.block _ (by omega)).trans hr1⟩))
  clear hr0 hr1
  obtain ⟨r0, r1⟩ := ROW.out W0 (Below.refl _ _)
  have b00 := (cell_of_row _ _ 0 _ _ _ r0).trans (show _ = some (.int .i64 s.K : Value) from rfl)
  have b01 := (cell_of_row _ _ 1 _ _ _ r0).trans (show _ = some (.int .i64 s.M : Value) from rfl)
  have b02 := (cell_of_row _ _ 2 _ _ _ r0).trans (show _ = some (.int .i64 s.size : Value) from rfl)
  have b10 := (cell_of_row _ _ 0 _ _ _ r1).trans (show _ = some (.slice _ n0 c0 : Value) from rfl)
  have b11 := (cell_of_row _ _ 1 _ _ _ r1).trans (show _ = some (.slice _ n1 c1 : Value) from rfl)
  have b12 := (cell_of_row _ _ 2 _ _ _ r1).trans (show _ = some (.slice _ n2 c2 : Value) from rfl)
  have b13 := (cell_of_row _ _ 3 _ _ _ r1).trans (show _ = some (.int .i64 b.next : Value) from rfl)
  clear r0 r1
  go_wp2_with fail
  refine (HM.out _ (HAL.out _ (Below.refl _ _))).mono ?_
  clear b00 b01 b02 b10 b11 b12 b13
  rintro e w1 ⟨rfl, hb1⟩
  have HB1 := Lib.hid hb1; clear hb1
  cases q with
  | false =>
    have HE : Hid (R = (0, 1)) := Lib.hid HR.out
    go_wp2
    refine bodyPost_ret (v := .tuple #[.int .i64 0, .int .i64 1]) (by simp [results, Try.results12, go_sem, *]; done) rfl ?_
    exact ⟨by rw [HE.out], HAL.out _ HB1.out⟩
  | true =>
    have HE : Hid (R = ((n0 : Int) * (s.K + s.M), 0)) := Lib.hid HR.out
    obtain ⟨k1, k2, m1, m2, _, _⟩ := HK.out (by trivial)
    have HP : Hid ((n0 : Int) * (s.K + s.M) ≤ 56000 ∧ 0 ≤ (n0 : Int) * (s.K + s.M)) := Lib.hid ⟨by
      have := Int.mul_le_mul (show (n0 : Int) ≤ 4000 by omega) (show s.K + s.M ≤ 14 by omega) (by omega) (by omega); omega, Int.mul_nonneg (by omega) (by omega)⟩
    obtain ⟨r0, r1⟩ := ROW.out w1 HB1.out
    have b10 := (cell_of_row _ _ 0 _ _ _ r1).trans (show _ = some (.slice _ n0 c0 : Value) from rfl)
    have b00 := (cell_of_row _ _ 0 _ _ _ r0).trans (show _ = some (.int .i64 s.K : Value) from rfl)
    have b01 := (cell_of_row _ _ 1 _ _ _ r0).trans (show _ = some (.int .i64 s.M : Value) from rfl)
    clear r0 r1
    have hP1 := HP.out.1
    have hP2 := HP.out.2
    go_wp2
    refine bodyPost_ret (v := .tuple #[.int .i64 ((n0 : Int) * (s.K + s.M)), .int .i64 0]) (by simp [results, Try.results12, go_sem, *]; done) rfl ?_
    exact ⟨by rw [HE.out], HAL.out _ HB1.out⟩
end Go.Proofs.Ytjeecdoffoahkaa
