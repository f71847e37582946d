/- The drawn regions of book.Do, each over a frame of letters. Printed by gen_y6.py. -/
import Derived.Test.YtipecejghioicaaY3r
import Derived.Test.YtipecejghioicaaY5r
import Derived.Test.YtipecejghioicaaQ12r
import Derived.Test.YtipecejghioicaaF1r
namespace Go.Silo
open Go Go.RowKit
/-- Calls in any order, then a call that writes, then a store of what it gave. -/
inductive WdC (V : World) (R : Nat → Value → World → Prop) (s1 : Nat) (R1 : Value → World → World → Prop) (s2 : Nat) (st2 : Value → World → World) : List (Nat × Value) → World → Prop
  | pre {us : List (Nat × Value)} {W : World} : Below V.heap.size V W → (∀ i v, (i, v) ∈ us → R i v W) → s1 ∉ us.map Prod.fst → s2 ∉ us.map Prod.fst → WdC V R s1 R1 s2 st2 us W
  | mid {us : List (Nat × Value)} {W0 W : World} {v : Value} : Below V.heap.size V W0 → R1 v W0 W → s1 ∉ us.map Prod.fst → s2 ∉ us.map Prod.fst → WdC V R s1 R1 s2 st2 (us ++ [(s1, v)]) W
  | fin {us : List (Nat × Value)} {W0 W : World} {v x : Value} : Below V.heap.size V W0 → R1 v W0 W → s1 ∉ us.map Prod.fst → s2 ∉ us.map Prod.fst → WdC V R s1 R1 s2 st2 (us ++ [(s1, v)] ++ [(s2, x)]) (st2 v W)
section
variable {V W W' : World} {R : Nat → Value → World → Prop} {s1 s2 : Nat} {R1 : Value → World → World → Prop} {st2 : Value → World → World} {us : List (Nat × Value)}
theorem WdC.init : WdC V R s1 R1 s2 st2 [] V.drew := .pre (Below.refl _ _).drew (fun _ _ h => by cases h) (by simp) (by simp)
theorem WdC.early (h : WdC V R s1 R1 s2 st2 us W) (hn : s1 ∉ us.map Prod.fst) : Below V.heap.size V W ∧ (∀ i v, (i, v) ∈ us → R i v W) ∧ s2 ∉ us.map Prod.fst := by
  cases h with
  | pre a b c d => exact ⟨a, b, d⟩
  | mid _ _ _ _ => exact absurd (by simp) hn
  | fin _ _ _ _ => exact absurd (by simp) hn
theorem WdC.snoc (h : WdC V R s1 R1 s2 st2 us W) {i : Nat} {x : Value} (h1 : i ≠ s1) (h2 : i ≠ s2) (hn : s1 ∉ us.map Prod.fst) (hb : Below W.heap.size W W') (hs : ∀ j v, R j v W → R j v W') (hx : R i x W') : WdC V R s1 R1 s2 st2 (us ++ [(i, x)]) W' := by
  obtain ⟨hB, hR, hn2⟩ := h.early hn
  refine .pre (hB.trans (hb.mono hB.size)) (fun j v hj => ?_) ?_ ?_
  · rcases List.mem_append.1 hj with hj | hj
    · exact hs j v (hR j v hj)
    · simp at hj
      obtain ⟨rfl, rfl⟩ := hj
      exact hx
  · rw [List.map_append, List.mem_append]
    rintro (h | h)
    · exact hn h
    · simp at h; exact h1 h.symm
  · rw [List.map_append, List.mem_append]
    rintro (h | h)
    · exact hn2 h
    · simp at h; exact h2 h.symm
theorem WdC.call (h : WdC V R s1 R1 s2 st2 us W) {x : Value} (hn : s1 ∉ us.map Prod.fst) (hx : R1 x W W') : WdC V R s1 R1 s2 st2 (us ++ [(s1, x)]) W' := by
  obtain ⟨hB, _, hn2⟩ := h.early hn
  exact .mid hB hx hn hn2
theorem WdC.half (h : WdC V R s1 R1 s2 st2 us W) (h1 : s1 ∈ us.map Prod.fst) (h2 : s2 ∉ us.map Prod.fst) : ∃ us0 W0 v, us = us0 ++ [(s1, v)] ∧ Below V.heap.size V W0 ∧ R1 v W0 W ∧ s1 ∉ us0.map Prod.fst ∧ s2 ∉ us0.map Prod.fst := by
  cases h with
  | pre _ _ h _ => exact absurd h1 h
  | mid a b c d => exact ⟨_, _, _, rfl, a, b, c, d⟩
  | fin _ _ _ _ => exact absurd (by simp) h2
theorem WdC.last (h : WdC V R s1 R1 s2 st2 us W) (h2 : s2 ∈ us.map Prod.fst) (hne : s1 ≠ s2) : ∃ us0 W0 W1 v x, us = us0 ++ [(s1, v)] ++ [(s2, x)] ∧ Below V.heap.size V W0 ∧ R1 v W0 W1 ∧ W = st2 v W1 := by
  cases h with
  | pre _ _ _ h => exact absurd h2 h
  | mid _ _ _ d =>
    rw [List.map_append, List.mem_append] at h2
    rcases h2 with h2 | h2
    · exact absurd h2 d
    · simp at h2; exact absurd h2.symm hne
  | fin a b _ _ => exact ⟨_, _, _, _, _, rfl, a, b, rfl⟩
end
end Go.Silo
namespace Go.Proofs.Ytipecejghioicaa
open Go.RowKit Go.Silo
/-- A search's answer. -/
def RF (P : Nat → Bool → Prop) (w : World) (e : Ending) (w' : World) : Prop := ∃ (k : Nat) (is : Bool), e = .returned (.tuple #[.int .i64 (k : Int), .bool is]) ∧ P k is ∧ Below w.heap.size w w'
/-- What 'set' gives, in a region. -/
def RS {α : Type} (T : TypeId) (E : Enc α) (β : Nat) (S : Nat → Prop) (A : Option Addr) (l' : List α) (v : Value) (W0 W : World) : Prop :=
  ∃ A' n' c', v = .slice A' n' c' ∧ Silo.Own T E W β S A' n' c' l' ∧ Chg (ablk A) W0 W ∧ (ablk A' = ablk A ∨ ∃ g, ablk A' = some g ∧ W0.heap.size ≤ g)
noncomputable def doReg5 : Code := ((Try.f20.body.bind (seekRegion 5)).getD .skip)
set_option maxRecDepth 100000 in
set_option maxHeartbeats 8000000 in
theorem do5 {Q : Exit → Act → World → Prop} {σ : Act} {w : World} {X : Nat → Option Obj} {β bb gr : Nat} {A0 A1 A2 A4 A5 : Option Addr} {n0 c0 n1 c1 n2 c2 n4 c4 n5 c5 : Nat} {b : Book} {kd id : Int} {nm dg : ByteArray} {P : Nat → Bool → Prop} (HOB : Hid (OB X β bb A0 n0 c0 A1 n1 c1 A2 n2 c2 b w)) (RR : Hid (w.heap[gr]? = some (.cells #[.int .i64 kd, .int .i64 id, .string nm, .string dg, .slice A4 n4 c4, .slice A5 n5 c5] 54 (0, 0)))) (HS : Hid (∀ V, Below w.heap.size w V → Calls Try.prog 37 #[.agg #[.slice A0 n0 c0, .slice A1 n1 c1, .slice A2 n2 c2, .int .i64 b.next], .int .i64 id] V (RF P V)))  (hσ : σ.tmps.size = 190) (s0 : σ.eval (.tmp 0) = .pointer (some ⟨bb, 0, none⟩)) (s3 : σ.eval (.tmp 3) = .pointer (some ⟨gr, 0, none⟩))
    (hend : ∀ (v : Nat → Value) (wz : World) (k : Nat) (is : Bool), v 5 = .int .i64 (k : Int) → v 6 = .bool is → P k is → Below w.heap.size w wz → Q .normal (putAll σ (([35, 36, 37, 38, 39, 40, 34, 41, 42, 5, 6] : List Nat).map fun d => (d, v d))) wz) :
    doReg5.wp Try.prog Q σ w := by
  conv => arg 2; whnf
  refine region_free (by kernel_rfl) (by kernel_rfl) 190 hσ [35, 36, 37, 38, 39, 40, 34, 41, 42, 5, 6] [5] [(40, 5)]
    [(35, [], fun _ => .pointer (some ⟨bb, 0, none⟩)), (36, [], fun _ => .pointer (some ⟨bb, 0, none⟩)), (37, [], fun _ => .agg #[.slice A0 n0 c0, .slice A1 n1 c1, .slice A2 n2 c2, .int .i64 b.next]), (38, [], fun _ => .pointer (some ⟨gr, 1, none⟩)), (39, [], fun _ => .int .i64 id), (34, [5], fun l => l.getD 0 undef), (41, [5], fun l => tupAt 0 (l.getD 0 undef)), (42, [5], fun l => tupAt 1 (l.getD 0 undef)), (5, [5], fun l => tupAt 0 (l.getD 0 undef)), (6, [5], fun l => tupAt 1 (l.getD 0 undef))]
    [] [] [[], [35], [36], [], [38], [37, 39], [40], [34], [34], [41], [42]]
    (WdB w (fun i v _ => i = 5 → ∃ (k : Nat) (is : Bool), v = .tuple #[.int .i64 (k : Int), .bool is] ∧ P k is)) (by kernel_rfl) .init ⟨?_, ?_, ?_, ?_, ?_, ?_, ?_, ?_, ?_, ?_, ?_, trivial⟩ ?_
  -- FAST11 cdot
  · (refine OpH.rd rfl rfl (fun ρ us w6 ho ht hc hl hsrc hW => ?_); have e0 := (ho 0 rfl).trans (show _ = (.pointer (some ⟨bb, 0, none⟩) : Value) from s0); clear ht ho; simp only [execOp, e0]; go_simp; try rfl)
  · (refine OpH.rd rfl rfl (fun ρ us w6 ho ht hc hl hsrc hW => ?_); have e35 := (ht 35 (by decide)).trans (show _ = (.pointer (some ⟨bb, 0, none⟩) : Value) from rfl); clear ht ho; simp only [execOp, e35]; go_simp; try rfl)
  · (refine OpH.rd rfl rfl (fun ρ us w6 ho ht hc hl hsrc hW => ?_); have e36 := (ht 36 (by decide)).trans (show _ = (.pointer (some ⟨bb, 0, none⟩) : Value) from rfl); have r7 := (HOB.out.all hW.1).row; have y0 := cell_of_row _ _ 0 _ _ _ r7; have y1 := cell_of_row _ _ 1 _ _ _ r7; have y2 := cell_of_row _ _ 2 _ _ _ r7; have y3 := cell_of_row _ _ 3 _ _ _ r7; clear r7; clear ht ho; simp only [execOp, e36]; go_simp; try rfl)
  · (refine OpH.rd rfl rfl (fun ρ us w6 ho ht hc hl hsrc hW => ?_); have e3 := (ho 3 rfl).trans (show _ = (.pointer (some ⟨gr, 0, none⟩) : Value) from s3); clear ht ho; simp only [execOp, e3]; go_simp; try rfl)
  · (refine OpH.rd rfl rfl (fun ρ us w6 ho ht hc hl hsrc hW => ?_); have e38 := (ht 38 (by decide)).trans (show _ = (.pointer (some ⟨gr, 1, none⟩) : Value) from rfl); have r8 := (hW.1.block _ (Array.getElem?_eq_some_iff.1 RR.out).1).trans RR.out; have z0 := cell_of_row _ _ 0 _ _ _ r8; have z1 := cell_of_row _ _ 1 _ _ _ r8; have z2 := cell_of_row _ _ 2 _ _ _ r8; have z3 := cell_of_row _ _ 3 _ _ _ r8; have z4 := cell_of_row _ _ 4 _ _ _ r8; have z5 := cell_of_row _ _ 5 _ _ _ r8; clear r8; clear ht ho; simp only [execOp, e38]; go_simp; try rfl)
  · refine OpH.wr rfl (fun Z us w6 ho ht hni hlim hreq hW K hK => ?_)
    have e37 := (ht 37 (by decide)).trans (show _ = (.agg #[.slice A0 n0 c0, .slice A1 n1 c1, .slice A2 n2 c2, .int .i64 b.next] : Value) from rfl)
    have e39 := (ht 39 (by decide)).trans (show _ = (.int .i64 id : Value) from rfl)
    have hcl := HS.out w6 hW.1
    skip
    refine step_call rfl 37 #[.tmp 37, .tmp 39] #[28, 3] rfl Try.func37 (by kernel_rfl) (by kernel_rfl) #[.agg #[.slice A0 n0 c0, .slice A1 n1 c1, .slice A2 n2 c2, .int .i64 b.next], .int .i64 id] (by simp [e37, e39]; try first | done | rfl | exact ⟨rfl, rfl⟩) (hcl) ?_
    rintro e w7 ⟨k, is, rfl, hp, hb7⟩
    exact ⟨_, rfl, hK _ _ (hW.snoc hb7 (fun j v h => h) (fun _ => ⟨k, is, rfl, hp⟩))⟩
  · (refine OpH.rd rfl rfl (fun ρ us w6 ho ht hc hl hsrc hW => ?_); have e40 := (ht 40 (by decide)).trans (show _ = ((us.lookup 5).getD undef : Value) from rfl); clear ht ho; simp only [execOp, e40]; go_simp; try rfl)
  · refine OpH.rd rfl rfl (fun ρ us w6 ho ht hc hl hsrc hW => ?_)
    obtain ⟨v6, l6, m6⟩ := lookup_mem (hsrc 5 (by exact (List.mem_singleton.2 rfl : (5 : Nat) ∈ [5])))
    obtain ⟨k, is, rfl, _⟩ := hW.2 5 v6 m6 rfl
    have e34 := ((ht 34 (by decide)).trans (show _ = (us.lookup 5).getD undef from rfl)).trans (show _ = (.tuple #[.int .i64 (k : Int), .bool is] : Value) by rw [l6]; rfl)
    change _ = Result.ok (Next.value (tupAt 0 ((us.lookup 5).getD undef))) w6
    rw [l6]
    clear ht ho hl hsrc hW l6 m6
    simp only [execOp, e34]
    go_simp
    rfl
  · refine OpH.rd rfl rfl (fun ρ us w6 ho ht hc hl hsrc hW => ?_)
    obtain ⟨v6, l6, m6⟩ := lookup_mem (hsrc 5 (by exact (List.mem_singleton.2 rfl : (5 : Nat) ∈ [5])))
    obtain ⟨k, is, rfl, _⟩ := hW.2 5 v6 m6 rfl
    have e34 := ((ht 34 (by decide)).trans (show _ = (us.lookup 5).getD undef from rfl)).trans (show _ = (.tuple #[.int .i64 (k : Int), .bool is] : Value) by rw [l6]; rfl)
    change _ = Result.ok (Next.value (tupAt 1 ((us.lookup 5).getD undef))) w6
    rw [l6]
    clear ht ho hl hsrc hW l6 m6
    simp only [execOp, e34]
    go_simp
    rfl
  · (refine OpH.rd rfl rfl (fun ρ us w6 ho ht hc hl hsrc hW => ?_); have e41 := (ht 41 (by decide)).trans (show _ = (tupAt 0 ((us.lookup 5).getD undef) : Value) from rfl); clear ht ho; simp only [execOp, e41]; go_simp; try rfl)
  · (refine OpH.rd rfl rfl (fun ρ us w6 ho ht hc hl hsrc hW => ?_); have e42 := (ht 42 (by decide)).trans (show _ = (tupAt 1 ((us.lookup 5).getD undef) : Value) from rfl); clear ht ho; simp only [execOp, e42]; go_simp; try rfl)
  -- TSAF
  · intro us wz hmem hW
    obtain ⟨v6, l6, m6⟩ := lookup_mem (hmem 5 (by decide))
    obtain ⟨k, is, rfl, hp⟩ := hW.2 5 v6 m6 rfl
    refine hend _ wz k is ?_ ?_ hp hW.1
    · show tupAt 0 ((us.lookup 5).getD undef) = _; rw [l6]; rfl
    · show tupAt 1 ((us.lookup 5).getD undef) = _; rw [l6]; rfl
noncomputable def doReg9 : Code := ((Try.f20.body.bind (seekRegion 9)).getD .skip)
set_option maxRecDepth 100000 in
set_option maxHeartbeats 8000000 in
theorem do9 {Q : Exit → Act → World → Prop} {σ : Act} {w : World} {X : Nat → Option Obj} {β bb gr : Nat} {A0 A1 A2 A4 A5 : Option Addr} {n0 c0 n1 c1 n2 c2 n4 c4 n5 c5 : Nat} {b : Book} {kd id : Int} {nm dg : ByteArray} {P : Nat → Bool → Prop} (HOB : Hid (OB X β bb A0 n0 c0 A1 n1 c1 A2 n2 c2 b w)) (RR : Hid (w.heap[gr]? = some (.cells #[.int .i64 kd, .int .i64 id, .string nm, .string dg, .slice A4 n4 c4, .slice A5 n5 c5] 54 (0, 0)))) (HS : Hid (∀ V, Below w.heap.size w V → Calls Try.prog 37 #[.agg #[.slice A0 n0 c0, .slice A1 n1 c1, .slice A2 n2 c2, .int .i64 b.next], .int .i64 id] V (RF P V)))  (hσ : σ.tmps.size = 190) (s0 : σ.eval (.tmp 0) = .pointer (some ⟨bb, 0, none⟩)) (s3 : σ.eval (.tmp 3) = .pointer (some ⟨gr, 0, none⟩))
    (hend : ∀ (v : Nat → Value) (wz : World) (k : Nat) (is : Bool), v 7 = .int .i64 (k : Int) → v 8 = .bool is → P k is → Below w.heap.size w wz → Q .normal (putAll σ (([81, 82, 83, 84, 85, 86, 80, 87, 88, 7, 8] : List Nat).map fun d => (d, v d))) wz) :
    doReg9.wp Try.prog Q σ w := by
  conv => arg 2; whnf
  refine region_free (by kernel_rfl) (by kernel_rfl) 190 hσ [81, 82, 83, 84, 85, 86, 80, 87, 88, 7, 8] [5] [(86, 5)]
    [(81, [], fun _ => .pointer (some ⟨bb, 0, none⟩)), (82, [], fun _ => .pointer (some ⟨bb, 0, none⟩)), (83, [], fun _ => .agg #[.slice A0 n0 c0, .slice A1 n1 c1, .slice A2 n2 c2, .int .i64 b.next]), (84, [], fun _ => .pointer (some ⟨gr, 1, none⟩)), (85, [], fun _ => .int .i64 id), (80, [5], fun l => l.getD 0 undef), (87, [5], fun l => tupAt 0 (l.getD 0 undef)), (88, [5], fun l => tupAt 1 (l.getD 0 undef)), (7, [5], fun l => tupAt 0 (l.getD 0 undef)), (8, [5], fun l => tupAt 1 (l.getD 0 undef))]
    [] [] [[], [81], [82], [], [84], [83, 85], [86], [80], [80], [87], [88]]
    (WdB w (fun i v _ => i = 5 → ∃ (k : Nat) (is : Bool), v = .tuple #[.int .i64 (k : Int), .bool is] ∧ P k is)) (by kernel_rfl) .init ⟨?_, ?_, ?_, ?_, ?_, ?_, ?_, ?_, ?_, ?_, ?_, trivial⟩ ?_
  -- FAST11 cdot
  · (refine OpH.rd rfl rfl (fun ρ us w6 ho ht hc hl hsrc hW => ?_); have e0 := (ho 0 rfl).trans (show _ = (.pointer (some ⟨bb, 0, none⟩) : Value) from s0); clear ht ho; simp only [execOp, e0]; go_simp; try rfl)
  · (refine OpH.rd rfl rfl (fun ρ us w6 ho ht hc hl hsrc hW => ?_); have e81 := (ht 81 (by decide)).trans (show _ = (.pointer (some ⟨bb, 0, none⟩) : Value) from rfl); clear ht ho; simp only [execOp, e81]; go_simp; try rfl)
  · (refine OpH.rd rfl rfl (fun ρ us w6 ho ht hc hl hsrc hW => ?_); have e82 := (ht 82 (by decide)).trans (show _ = (.pointer (some ⟨bb, 0, none⟩) : Value) from rfl); have r7 := (HOB.out.all hW.1).row; have y0 := cell_of_row _ _ 0 _ _ _ r7; have y1 := cell_of_row _ _ 1 _ _ _ r7; have y2 := cell_of_row _ _ 2 _ _ _ r7; have y3 := cell_of_row _ _ 3 _ _ _ r7; clear r7; clear ht ho; simp only [execOp, e82]; go_simp; try rfl)
  · (refine OpH.rd rfl rfl (fun ρ us w6 ho ht hc hl hsrc hW => ?_); have e3 := (ho 3 rfl).trans (show _ = (.pointer (some ⟨gr, 0, none⟩) : Value) from s3); clear ht ho; simp only [execOp, e3]; go_simp; try rfl)
  · (refine OpH.rd rfl rfl (fun ρ us w6 ho ht hc hl hsrc hW => ?_); have e84 := (ht 84 (by decide)).trans (show _ = (.pointer (some ⟨gr, 1, none⟩) : Value) from rfl); have r8 := (hW.1.block _ (Array.getElem?_eq_some_iff.1 RR.out).1).trans RR.out; have z0 := cell_of_row _ _ 0 _ _ _ r8; have z1 := cell_of_row _ _ 1 _ _ _ r8; have z2 := cell_of_row _ _ 2 _ _ _ r8; have z3 := cell_of_row _ _ 3 _ _ _ r8; have z4 := cell_of_row _ _ 4 _ _ _ r8; have z5 := cell_of_row _ _ 5 _ _ _ r8; clear r8; clear ht ho; simp only [execOp, e84]; go_simp; try rfl)
  · refine OpH.wr rfl (fun Z us w6 ho ht hni hlim hreq hW K hK => ?_)
    have e83 := (ht 83 (by decide)).trans (show _ = (.agg #[.slice A0 n0 c0, .slice A1 n1 c1, .slice A2 n2 c2, .int .i64 b.next] : Value) from rfl)
    have e85 := (ht 85 (by decide)).trans (show _ = (.int .i64 id : Value) from rfl)
    have hcl := HS.out w6 hW.1
    skip
    refine step_call rfl 37 #[.tmp 83, .tmp 85] #[28, 3] rfl Try.func37 (by kernel_rfl) (by kernel_rfl) #[.agg #[.slice A0 n0 c0, .slice A1 n1 c1, .slice A2 n2 c2, .int .i64 b.next], .int .i64 id] (by simp [e83, e85]; try first | done | rfl | exact ⟨rfl, rfl⟩) (hcl) ?_
    rintro e w7 ⟨k, is, rfl, hp, hb7⟩
    exact ⟨_, rfl, hK _ _ (hW.snoc hb7 (fun j v h => h) (fun _ => ⟨k, is, rfl, hp⟩))⟩
  · (refine OpH.rd rfl rfl (fun ρ us w6 ho ht hc hl hsrc hW => ?_); have e86 := (ht 86 (by decide)).trans (show _ = ((us.lookup 5).getD undef : Value) from rfl); clear ht ho; simp only [execOp, e86]; go_simp; try rfl)
  · refine OpH.rd rfl rfl (fun ρ us w6 ho ht hc hl hsrc hW => ?_)
    obtain ⟨v6, l6, m6⟩ := lookup_mem (hsrc 5 (by exact (List.mem_singleton.2 rfl : (5 : Nat) ∈ [5])))
    obtain ⟨k, is, rfl, _⟩ := hW.2 5 v6 m6 rfl
    have e80 := ((ht 80 (by decide)).trans (show _ = (us.lookup 5).getD undef from rfl)).trans (show _ = (.tuple #[.int .i64 (k : Int), .bool is] : Value) by rw [l6]; rfl)
    change _ = Result.ok (Next.value (tupAt 0 ((us.lookup 5).getD undef))) w6
    rw [l6]
    clear ht ho hl hsrc hW l6 m6
    simp only [execOp, e80]
    go_simp
    rfl
  · refine OpH.rd rfl rfl (fun ρ us w6 ho ht hc hl hsrc hW => ?_)
    obtain ⟨v6, l6, m6⟩ := lookup_mem (hsrc 5 (by exact (List.mem_singleton.2 rfl : (5 : Nat) ∈ [5])))
    obtain ⟨k, is, rfl, _⟩ := hW.2 5 v6 m6 rfl
    have e80 := ((ht 80 (by decide)).trans (show _ = (us.lookup 5).getD undef from rfl)).trans (show _ = (.tuple #[.int .i64 (k : Int), .bool is] : Value) by rw [l6]; rfl)
    change _ = Result.ok (Next.value (tupAt 1 ((us.lookup 5).getD undef))) w6
    rw [l6]
    clear ht ho hl hsrc hW l6 m6
    simp only [execOp, e80]
    go_simp
    rfl
  · (refine OpH.rd rfl rfl (fun ρ us w6 ho ht hc hl hsrc hW => ?_); have e87 := (ht 87 (by decide)).trans (show _ = (tupAt 0 ((us.lookup 5).getD undef) : Value) from rfl); clear ht ho; simp only [execOp, e87]; go_simp; try rfl)
  · (refine OpH.rd rfl rfl (fun ρ us w6 ho ht hc hl hsrc hW => ?_); have e88 := (ht 88 (by decide)).trans (show _ = (tupAt 1 ((us.lookup 5).getD undef) : Value) from rfl); clear ht ho; simp only [execOp, e88]; go_simp; try rfl)
  -- TSAF
  · intro us wz hmem hW
    obtain ⟨v6, l6, m6⟩ := lookup_mem (hmem 5 (by decide))
    obtain ⟨k, is, rfl, hp⟩ := hW.2 5 v6 m6 rfl
    refine hend _ wz k is ?_ ?_ hp hW.1
    · show tupAt 0 ((us.lookup 5).getD undef) = _; rw [l6]; rfl
    · show tupAt 1 ((us.lookup 5).getD undef) = _; rw [l6]; rfl
noncomputable def doReg13 : Code := ((Try.f20.body.bind (seekRegion 13)).getD .skip)
set_option maxRecDepth 100000 in
set_option maxHeartbeats 8000000 in
theorem do13 {Q : Exit → Act → World → Prop} {σ : Act} {w : World} {X : Nat → Option Obj} {β bb gr : Nat} {A0 A1 A2 A4 A5 : Option Addr} {n0 c0 n1 c1 n2 c2 n4 c4 n5 c5 : Nat} {b : Book} {kd id : Int} {nm dg : ByteArray} {P : Nat → Bool → Prop} (HOB : Hid (OB X β bb A0 n0 c0 A1 n1 c1 A2 n2 c2 b w)) (RR : Hid (w.heap[gr]? = some (.cells #[.int .i64 kd, .int .i64 id, .string nm, .string dg, .slice A4 n4 c4, .slice A5 n5 c5] 54 (0, 0)))) (HS : Hid (∀ V, Below w.heap.size w V → Calls Try.prog 41 #[.agg #[.slice A0 n0 c0, .slice A1 n1 c1, .slice A2 n2 c2, .int .i64 b.next], .string dg] V (RF P V)))  (hσ : σ.tmps.size = 190) (s0 : σ.eval (.tmp 0) = .pointer (some ⟨bb, 0, none⟩)) (s3 : σ.eval (.tmp 3) = .pointer (some ⟨gr, 0, none⟩))
    (hend : ∀ (v : Nat → Value) (wz : World) (k : Nat) (is : Bool), v 9 = .int .i64 (k : Int) → v 10 = .bool is → P k is → Below w.heap.size w wz → Q .normal (putAll σ (([99, 100, 101, 102, 103, 104, 98, 105, 106, 9, 10] : List Nat).map fun d => (d, v d))) wz) :
    doReg13.wp Try.prog Q σ w := by
  conv => arg 2; whnf
  refine region_free (by kernel_rfl) (by kernel_rfl) 190 hσ [99, 100, 101, 102, 103, 104, 98, 105, 106, 9, 10] [5] [(104, 5)]
    [(99, [], fun _ => .pointer (some ⟨bb, 0, none⟩)), (100, [], fun _ => .pointer (some ⟨bb, 0, none⟩)), (101, [], fun _ => .agg #[.slice A0 n0 c0, .slice A1 n1 c1, .slice A2 n2 c2, .int .i64 b.next]), (102, [], fun _ => .pointer (some ⟨gr, 3, none⟩)), (103, [], fun _ => .string dg), (98, [5], fun l => l.getD 0 undef), (105, [5], fun l => tupAt 0 (l.getD 0 undef)), (106, [5], fun l => tupAt 1 (l.getD 0 undef)), (9, [5], fun l => tupAt 0 (l.getD 0 undef)), (10, [5], fun l => tupAt 1 (l.getD 0 undef))]
    [] [] [[], [99], [100], [], [102], [101, 103], [104], [98], [98], [105], [106]]
    (WdB w (fun i v _ => i = 5 → ∃ (k : Nat) (is : Bool), v = .tuple #[.int .i64 (k : Int), .bool is] ∧ P k is)) (by kernel_rfl) .init ⟨?_, ?_, ?_, ?_, ?_, ?_, ?_, ?_, ?_, ?_, ?_, trivial⟩ ?_
  -- FAST11 cdot
  · (refine OpH.rd rfl rfl (fun ρ us w6 ho ht hc hl hsrc hW => ?_); have e0 := (ho 0 rfl).trans (show _ = (.pointer (some ⟨bb, 0, none⟩) : Value) from s0); clear ht ho; simp only [execOp, e0]; go_simp; try rfl)
  · (refine OpH.rd rfl rfl (fun ρ us w6 ho ht hc hl hsrc hW => ?_); have e99 := (ht 99 (by decide)).trans (show _ = (.pointer (some ⟨bb, 0, none⟩) : Value) from rfl); clear ht ho; simp only [execOp, e99]; go_simp; try rfl)
  · (refine OpH.rd rfl rfl (fun ρ us w6 ho ht hc hl hsrc hW => ?_); have e100 := (ht 100 (by decide)).trans (show _ = (.pointer (some ⟨bb, 0, none⟩) : Value) from rfl); have r7 := (HOB.out.all hW.1).row; have y0 := cell_of_row _ _ 0 _ _ _ r7; have y1 := cell_of_row _ _ 1 _ _ _ r7; have y2 := cell_of_row _ _ 2 _ _ _ r7; have y3 := cell_of_row _ _ 3 _ _ _ r7; clear r7; clear ht ho; simp only [execOp, e100]; go_simp; try rfl)
  · (refine OpH.rd rfl rfl (fun ρ us w6 ho ht hc hl hsrc hW => ?_); have e3 := (ho 3 rfl).trans (show _ = (.pointer (some ⟨gr, 0, none⟩) : Value) from s3); clear ht ho; simp only [execOp, e3]; go_simp; try rfl)
  · (refine OpH.rd rfl rfl (fun ρ us w6 ho ht hc hl hsrc hW => ?_); have e102 := (ht 102 (by decide)).trans (show _ = (.pointer (some ⟨gr, 3, none⟩) : Value) from rfl); have r8 := (hW.1.block _ (Array.getElem?_eq_some_iff.1 RR.out).1).trans RR.out; have z0 := cell_of_row _ _ 0 _ _ _ r8; have z1 := cell_of_row _ _ 1 _ _ _ r8; have z2 := cell_of_row _ _ 2 _ _ _ r8; have z3 := cell_of_row _ _ 3 _ _ _ r8; have z4 := cell_of_row _ _ 4 _ _ _ r8; have z5 := cell_of_row _ _ 5 _ _ _ r8; clear r8; clear ht ho; simp only [execOp, e102]; go_simp; try rfl)
  · refine OpH.wr rfl (fun Z us w6 ho ht hni hlim hreq hW K hK => ?_)
    have e101 := (ht 101 (by decide)).trans (show _ = (.agg #[.slice A0 n0 c0, .slice A1 n1 c1, .slice A2 n2 c2, .int .i64 b.next] : Value) from rfl)
    have e103 := (ht 103 (by decide)).trans (show _ = (.string dg : Value) from rfl)
    have hcl := HS.out w6 hW.1
    skip
    refine step_call rfl 41 #[.tmp 101, .tmp 103] #[28, 9] rfl Try.func41 (by kernel_rfl) (by kernel_rfl) #[.agg #[.slice A0 n0 c0, .slice A1 n1 c1, .slice A2 n2 c2, .int .i64 b.next], .string dg] (by simp [e101, e103]; try first | done | rfl | exact ⟨rfl, rfl⟩) (hcl) ?_
    rintro e w7 ⟨k, is, rfl, hp, hb7⟩
    exact ⟨_, rfl, hK _ _ (hW.snoc hb7 (fun j v h => h) (fun _ => ⟨k, is, rfl, hp⟩))⟩
  · (refine OpH.rd rfl rfl (fun ρ us w6 ho ht hc hl hsrc hW => ?_); have e104 := (ht 104 (by decide)).trans (show _ = ((us.lookup 5).getD undef : Value) from rfl); clear ht ho; simp only [execOp, e104]; go_simp; try rfl)
  · refine OpH.rd rfl rfl (fun ρ us w6 ho ht hc hl hsrc hW => ?_)
    obtain ⟨v6, l6, m6⟩ := lookup_mem (hsrc 5 (by exact (List.mem_singleton.2 rfl : (5 : Nat) ∈ [5])))
    obtain ⟨k, is, rfl, _⟩ := hW.2 5 v6 m6 rfl
    have e98 := ((ht 98 (by decide)).trans (show _ = (us.lookup 5).getD undef from rfl)).trans (show _ = (.tuple #[.int .i64 (k : Int), .bool is] : Value) by rw [l6]; rfl)
    change _ = Result.ok (Next.value (tupAt 0 ((us.lookup 5).getD undef))) w6
    rw [l6]
    clear ht ho hl hsrc hW l6 m6
    simp only [execOp, e98]
    go_simp
    rfl
  · refine OpH.rd rfl rfl (fun ρ us w6 ho ht hc hl hsrc hW => ?_)
    obtain ⟨v6, l6, m6⟩ := lookup_mem (hsrc 5 (by exact (List.mem_singleton.2 rfl : (5 : Nat) ∈ [5])))
    obtain ⟨k, is, rfl, _⟩ := hW.2 5 v6 m6 rfl
    have e98 := ((ht 98 (by decide)).trans (show _ = (us.lookup 5).getD undef from rfl)).trans (show _ = (.tuple #[.int .i64 (k : Int), .bool is] : Value) by rw [l6]; rfl)
    change _ = Result.ok (Next.value (tupAt 1 ((us.lookup 5).getD undef))) w6
    rw [l6]
    clear ht ho hl hsrc hW l6 m6
    simp only [execOp, e98]
    go_simp
    rfl
  · (refine OpH.rd rfl rfl (fun ρ us w6 ho ht hc hl hsrc hW => ?_); have e105 := (ht 105 (by decide)).trans (show _ = (tupAt 0 ((us.lookup 5).getD undef) : Value) from rfl); clear ht ho; simp only [execOp, e105]; go_simp; try rfl)
  · (refine OpH.rd rfl rfl (fun ρ us w6 ho ht hc hl hsrc hW => ?_); have e106 := (ht 106 (by decide)).trans (show _ = (tupAt 1 ((us.lookup 5).getD undef) : Value) from rfl); clear ht ho; simp only [execOp, e106]; go_simp; try rfl)
  -- TSAF
  · intro us wz hmem hW
    obtain ⟨v6, l6, m6⟩ := lookup_mem (hmem 5 (by decide))
    obtain ⟨k, is, rfl, hp⟩ := hW.2 5 v6 m6 rfl
    refine hend _ wz k is ?_ ?_ hp hW.1
    · show tupAt 0 ((us.lookup 5).getD undef) = _; rw [l6]; rfl
    · show tupAt 1 ((us.lookup 5).getD undef) = _; rw [l6]; rfl
noncomputable def doReg16 : Code := ((Try.f20.body.bind (seekRegion 16)).getD .skip)
set_option maxRecDepth 100000 in
set_option maxHeartbeats 8000000 in
theorem do16 {Q : Exit → Act → World → Prop} {σ : Act} {w : World} {X : Nat → Option Obj} {β bb gr : Nat} {A0 A1 A2 A4 A5 : Option Addr} {n0 c0 n1 c1 n2 c2 n4 c4 n5 c5 : Nat} {b : Book} {kd id : Int} {nm dg : ByteArray} {P : Nat → Bool → Prop} (HOB : Hid (OB X β bb A0 n0 c0 A1 n1 c1 A2 n2 c2 b w)) (RR : Hid (w.heap[gr]? = some (.cells #[.int .i64 kd, .int .i64 id, .string nm, .string dg, .slice A4 n4 c4, .slice A5 n5 c5] 54 (0, 0)))) (HS : Hid (∀ V, Below w.heap.size w V → Calls Try.prog 41 #[.agg #[.slice A0 n0 c0, .slice A1 n1 c1, .slice A2 n2 c2, .int .i64 b.next], .string dg] V (RF P V)))  (hσ : σ.tmps.size = 190) (s0 : σ.eval (.tmp 0) = .pointer (some ⟨bb, 0, none⟩)) (s3 : σ.eval (.tmp 3) = .pointer (some ⟨gr, 0, none⟩))
    (hend : ∀ (v : Nat → Value) (wz : World) (k : Nat) (is : Bool), v 11 = .int .i64 (k : Int) → v 12 = .bool is → P k is → Below w.heap.size w wz → Q .normal (putAll σ (([131, 132, 133, 134, 135, 136, 130, 137, 138, 11, 12] : List Nat).map fun d => (d, v d))) wz) :
    doReg16.wp Try.prog Q σ w := by
  conv => arg 2; whnf
  refine region_free (by kernel_rfl) (by kernel_rfl) 190 hσ [131, 132, 133, 134, 135, 136, 130, 137, 138, 11, 12] [5] [(136, 5)]
    [(131, [], fun _ => .pointer (some ⟨bb, 0, none⟩)), (132, [], fun _ => .pointer (some ⟨bb, 0, none⟩)), (133, [], fun _ => .agg #[.slice A0 n0 c0, .slice A1 n1 c1, .slice A2 n2 c2, .int .i64 b.next]), (134, [], fun _ => .pointer (some ⟨gr, 3, none⟩)), (135, [], fun _ => .string dg), (130, [5], fun l => l.getD 0 undef), (137, [5], fun l => tupAt 0 (l.getD 0 undef)), (138, [5], fun l => tupAt 1 (l.getD 0 undef)), (11, [5], fun l => tupAt 0 (l.getD 0 undef)), (12, [5], fun l => tupAt 1 (l.getD 0 undef))]
    [] [] [[], [131], [132], [], [134], [133, 135], [136], [130], [130], [137], [138]]
    (WdB w (fun i v _ => i = 5 → ∃ (k : Nat) (is : Bool), v = .tuple #[.int .i64 (k : Int), .bool is] ∧ P k is)) (by kernel_rfl) .init ⟨?_, ?_, ?_, ?_, ?_, ?_, ?_, ?_, ?_, ?_, ?_, trivial⟩ ?_
  -- FAST11 cdot
  · (refine OpH.rd rfl rfl (fun ρ us w6 ho ht hc hl hsrc hW => ?_); have e0 := (ho 0 rfl).trans (show _ = (.pointer (some ⟨bb, 0, none⟩) : Value) from s0); clear ht ho; simp only [execOp, e0]; go_simp; try rfl)
  · (refine OpH.rd rfl rfl (fun ρ us w6 ho ht hc hl hsrc hW => ?_); have e131 := (ht 131 (by decide)).trans (show _ = (.pointer (some ⟨bb, 0, none⟩) : Value) from rfl); clear ht ho; simp only [execOp, e131]; go_simp; try rfl)
  · (refine OpH.rd rfl rfl (fun ρ us w6 ho ht hc hl hsrc hW => ?_); have e132 := (ht 132 (by decide)).trans (show _ = (.pointer (some ⟨bb, 0, none⟩) : Value) from rfl); have r7 := (HOB.out.all hW.1).row; have y0 := cell_of_row _ _ 0 _ _ _ r7; have y1 := cell_of_row _ _ 1 _ _ _ r7; have y2 := cell_of_row _ _ 2 _ _ _ r7; have y3 := cell_of_row _ _ 3 _ _ _ r7; clear r7; clear ht ho; simp only [execOp, e132]; go_simp; try rfl)
  · (refine OpH.rd rfl rfl (fun ρ us w6 ho ht hc hl hsrc hW => ?_); have e3 := (ho 3 rfl).trans (show _ = (.pointer (some ⟨gr, 0, none⟩) : Value) from s3); clear ht ho; simp only [execOp, e3]; go_simp; try rfl)
  · (refine OpH.rd rfl rfl (fun ρ us w6 ho ht hc hl hsrc hW => ?_); have e134 := (ht 134 (by decide)).trans (show _ = (.pointer (some ⟨gr, 3, none⟩) : Value) from rfl); have r8 := (hW.1.block _ (Array.getElem?_eq_some_iff.1 RR.out).1).trans RR.out; have z0 := cell_of_row _ _ 0 _ _ _ r8; have z1 := cell_of_row _ _ 1 _ _ _ r8; have z2 := cell_of_row _ _ 2 _ _ _ r8; have z3 := cell_of_row _ _ 3 _ _ _ r8; have z4 := cell_of_row _ _ 4 _ _ _ r8; have z5 := cell_of_row _ _ 5 _ _ _ r8; clear r8; clear ht ho; simp only [execOp, e134]; go_simp; try rfl)
  · refine OpH.wr rfl (fun Z us w6 ho ht hni hlim hreq hW K hK => ?_)
    have e133 := (ht 133 (by decide)).trans (show _ = (.agg #[.slice A0 n0 c0, .slice A1 n1 c1, .slice A2 n2 c2, .int .i64 b.next] : Value) from rfl)
    have e135 := (ht 135 (by decide)).trans (show _ = (.string dg : Value) from rfl)
    have hcl := HS.out w6 hW.1
    skip
    refine step_call rfl 41 #[.tmp 133, .tmp 135] #[28, 9] rfl Try.func41 (by kernel_rfl) (by kernel_rfl) #[.agg #[.slice A0 n0 c0, .slice A1 n1 c1, .slice A2 n2 c2, .int .i64 b.next], .string dg] (by simp [e133, e135]; try first | done | rfl | exact ⟨rfl, rfl⟩) (hcl) ?_
    rintro e w7 ⟨k, is, rfl, hp, hb7⟩
    exact ⟨_, rfl, hK _ _ (hW.snoc hb7 (fun j v h => h) (fun _ => ⟨k, is, rfl, hp⟩))⟩
  · (refine OpH.rd rfl rfl (fun ρ us w6 ho ht hc hl hsrc hW => ?_); have e136 := (ht 136 (by decide)).trans (show _ = ((us.lookup 5).getD undef : Value) from rfl); clear ht ho; simp only [execOp, e136]; go_simp; try rfl)
  · refine OpH.rd rfl rfl (fun ρ us w6 ho ht hc hl hsrc hW => ?_)
    obtain ⟨v6, l6, m6⟩ := lookup_mem (hsrc 5 (by exact (List.mem_singleton.2 rfl : (5 : Nat) ∈ [5])))
    obtain ⟨k, is, rfl, _⟩ := hW.2 5 v6 m6 rfl
    have e130 := ((ht 130 (by decide)).trans (show _ = (us.lookup 5).getD undef from rfl)).trans (show _ = (.tuple #[.int .i64 (k : Int), .bool is] : Value) by rw [l6]; rfl)
    change _ = Result.ok (Next.value (tupAt 0 ((us.lookup 5).getD undef))) w6
    rw [l6]
    clear ht ho hl hsrc hW l6 m6
    simp only [execOp, e130]
    go_simp
    rfl
  · refine OpH.rd rfl rfl (fun ρ us w6 ho ht hc hl hsrc hW => ?_)
    obtain ⟨v6, l6, m6⟩ := lookup_mem (hsrc 5 (by exact (List.mem_singleton.2 rfl : (5 : Nat) ∈ [5])))
    obtain ⟨k, is, rfl, _⟩ := hW.2 5 v6 m6 rfl
    have e130 := ((ht 130 (by decide)).trans (show _ = (us.lookup 5).getD undef from rfl)).trans (show _ = (.tuple #[.int .i64 (k : Int), .bool is] : Value) by rw [l6]; rfl)
    change _ = Result.ok (Next.value (tupAt 1 ((us.lookup 5).getD undef))) w6
    rw [l6]
    clear ht ho hl hsrc hW l6 m6
    simp only [execOp, e130]
    go_simp
    rfl
  · (refine OpH.rd rfl rfl (fun ρ us w6 ho ht hc hl hsrc hW => ?_); have e137 := (ht 137 (by decide)).trans (show _ = (tupAt 0 ((us.lookup 5).getD undef) : Value) from rfl); clear ht ho; simp only [execOp, e137]; go_simp; try rfl)
  · (refine OpH.rd rfl rfl (fun ρ us w6 ho ht hc hl hsrc hW => ?_); have e138 := (ht 138 (by decide)).trans (show _ = (tupAt 1 ((us.lookup 5).getD undef) : Value) from rfl); clear ht ho; simp only [execOp, e138]; go_simp; try rfl)
  -- TSAF
  · intro us wz hmem hW
    obtain ⟨v6, l6, m6⟩ := lookup_mem (hmem 5 (by decide))
    obtain ⟨k, is, rfl, hp⟩ := hW.2 5 v6 m6 rfl
    refine hend _ wz k is ?_ ?_ hp hW.1
    · show tupAt 0 ((us.lookup 5).getD undef) = _; rw [l6]; rfl
    · show tupAt 1 ((us.lookup 5).getD undef) = _; rw [l6]; rfl
noncomputable def doReg19 : Code := ((Try.f20.body.bind (seekRegion 19)).getD .skip)
set_option maxRecDepth 100000 in
set_option maxHeartbeats 8000000 in
theorem do19 {Q : Exit → Act → World → Prop} {σ : Act} {w : World} {X : Nat → Option Obj} {β bb gr : Nat} {A0 A1 A2 A4 A5 : Option Addr} {n0 c0 n1 c1 n2 c2 n4 c4 n5 c5 : Nat} {b : Book} {kd id : Int} {nm dg : ByteArray} {P : Nat → Bool → Prop} (HOB : Hid (OB X β bb A0 n0 c0 A1 n1 c1 A2 n2 c2 b w)) (RR : Hid (w.heap[gr]? = some (.cells #[.int .i64 kd, .int .i64 id, .string nm, .string dg, .slice A4 n4 c4, .slice A5 n5 c5] 54 (0, 0)))) (HS : Hid (∀ V, Below w.heap.size w V → Calls Try.prog 44 #[.slice A2 n2 c2, .string nm, .func (.func 45) #[] #[]] V (RF P V)))  (hσ : σ.tmps.size = 190) (s0 : σ.eval (.tmp 0) = .pointer (some ⟨bb, 0, none⟩)) (s3 : σ.eval (.tmp 3) = .pointer (some ⟨gr, 0, none⟩))
    (hend : ∀ (v : Nat → Value) (wz : World) (k : Nat) (is : Bool), v 13 = .int .i64 (k : Int) → v 14 = .bool is → P k is → Below w.heap.size w wz → Q .normal (putAll σ (([148, 149, 150, 151, 152, 153, 154, 147, 155, 156, 13, 14] : List Nat).map fun d => (d, v d))) wz) :
    doReg19.wp Try.prog Q σ w := by
  conv => arg 2; whnf
  refine region_free (by kernel_rfl) (by kernel_rfl) 190 hσ [148, 149, 150, 151, 152, 153, 154, 147, 155, 156, 13, 14] [6] [(154, 6)]
    [(148, [], fun _ => .pointer (some ⟨bb, 0, none⟩)), (149, [], fun _ => .pointer (some ⟨bb, 0, none⟩)), (150, [], fun _ => .pointer (some ⟨bb, 2, none⟩)), (151, [], fun _ => .slice A2 n2 c2), (152, [], fun _ => .pointer (some ⟨gr, 2, none⟩)), (153, [], fun _ => .string nm), (147, [6], fun l => l.getD 0 undef), (155, [6], fun l => tupAt 0 (l.getD 0 undef)), (156, [6], fun l => tupAt 1 (l.getD 0 undef)), (13, [6], fun l => tupAt 0 (l.getD 0 undef)), (14, [6], fun l => tupAt 1 (l.getD 0 undef))]
    [] [] [[], [148], [149], [150], [], [152], [151, 153], [154], [147], [147], [155], [156]]
    (WdB w (fun i v _ => i = 6 → ∃ (k : Nat) (is : Bool), v = .tuple #[.int .i64 (k : Int), .bool is] ∧ P k is)) (by kernel_rfl) .init ⟨?_, ?_, ?_, ?_, ?_, ?_, ?_, ?_, ?_, ?_, ?_, ?_, trivial⟩ ?_
  -- FAST12 cdot
  · (refine OpH.rd rfl rfl (fun ρ us w6 ho ht hc hl hsrc hW => ?_); have e0 := (ho 0 rfl).trans (show _ = (.pointer (some ⟨bb, 0, none⟩) : Value) from s0); clear ht ho; simp only [execOp, e0]; go_simp; try rfl)
  · (refine OpH.rd rfl rfl (fun ρ us w6 ho ht hc hl hsrc hW => ?_); have e148 := (ht 148 (by decide)).trans (show _ = (.pointer (some ⟨bb, 0, none⟩) : Value) from rfl); clear ht ho; simp only [execOp, e148]; go_simp; try rfl)
  · (refine OpH.rd rfl rfl (fun ρ us w6 ho ht hc hl hsrc hW => ?_); have e149 := (ht 149 (by decide)).trans (show _ = (.pointer (some ⟨bb, 0, none⟩) : Value) from rfl); clear ht ho; simp only [execOp, e149]; go_simp; try rfl)
  · (refine OpH.rd rfl rfl (fun ρ us w6 ho ht hc hl hsrc hW => ?_); have e150 := (ht 150 (by decide)).trans (show _ = (.pointer (some ⟨bb, 2, none⟩) : Value) from rfl); have r7 := (HOB.out.all hW.1).row; have y0 := cell_of_row _ _ 0 _ _ _ r7; have y1 := cell_of_row _ _ 1 _ _ _ r7; have y2 := cell_of_row _ _ 2 _ _ _ r7; have y3 := cell_of_row _ _ 3 _ _ _ r7; clear r7; clear ht ho; simp only [execOp, e150]; go_simp; try rfl)
  · (refine OpH.rd rfl rfl (fun ρ us w6 ho ht hc hl hsrc hW => ?_); have e3 := (ho 3 rfl).trans (show _ = (.pointer (some ⟨gr, 0, none⟩) : Value) from s3); clear ht ho; simp only [execOp, e3]; go_simp; try rfl)
  · (refine OpH.rd rfl rfl (fun ρ us w6 ho ht hc hl hsrc hW => ?_); have e152 := (ht 152 (by decide)).trans (show _ = (.pointer (some ⟨gr, 2, none⟩) : Value) from rfl); have r8 := (hW.1.block _ (Array.getElem?_eq_some_iff.1 RR.out).1).trans RR.out; have z0 := cell_of_row _ _ 0 _ _ _ r8; have z1 := cell_of_row _ _ 1 _ _ _ r8; have z2 := cell_of_row _ _ 2 _ _ _ r8; have z3 := cell_of_row _ _ 3 _ _ _ r8; have z4 := cell_of_row _ _ 4 _ _ _ r8; have z5 := cell_of_row _ _ 5 _ _ _ r8; clear r8; clear ht ho; simp only [execOp, e152]; go_simp; try rfl)
  · refine OpH.wr rfl (fun Z us w6 ho ht hni hlim hreq hW K hK => ?_)
    have e151 := (ht 151 (by decide)).trans (show _ = (.slice A2 n2 c2 : Value) from rfl)
    have e153 := (ht 153 (by decide)).trans (show _ = (.string nm : Value) from rfl)
    have hcl := HS.out w6 hW.1
    have hfn : ∀ g, Z.eval (.func g) = .func (.func g) #[] #[] := fun _ => rfl
    refine step_call rfl 44 #[.tmp 151, .tmp 153, .func 45] #[26, 9, 92] rfl Try.func44 (by kernel_rfl) (by kernel_rfl) #[.slice A2 n2 c2, .string nm, .func (.func 45) #[] #[]] (by simp [e151, e153, hfn]; try first | done | rfl | exact ⟨rfl, rfl⟩) (hcl) ?_
    rintro e w7 ⟨k, is, rfl, hp, hb7⟩
    exact ⟨_, rfl, hK _ _ (hW.snoc hb7 (fun j v h => h) (fun _ => ⟨k, is, rfl, hp⟩))⟩
  · (refine OpH.rd rfl rfl (fun ρ us w6 ho ht hc hl hsrc hW => ?_); have e154 := (ht 154 (by decide)).trans (show _ = ((us.lookup 6).getD undef : Value) from rfl); clear ht ho; simp only [execOp, e154]; go_simp; try rfl)
  · refine OpH.rd rfl rfl (fun ρ us w6 ho ht hc hl hsrc hW => ?_)
    obtain ⟨v6, l6, m6⟩ := lookup_mem (hsrc 6 (by exact (List.mem_singleton.2 rfl : (6 : Nat) ∈ [6])))
    obtain ⟨k, is, rfl, _⟩ := hW.2 6 v6 m6 rfl
    have e147 := ((ht 147 (by decide)).trans (show _ = (us.lookup 6).getD undef from rfl)).trans (show _ = (.tuple #[.int .i64 (k : Int), .bool is] : Value) by rw [l6]; rfl)
    change _ = Result.ok (Next.value (tupAt 0 ((us.lookup 6).getD undef))) w6
    rw [l6]
    clear ht ho hl hsrc hW l6 m6
    simp only [execOp, e147]
    go_simp
    rfl
  · refine OpH.rd rfl rfl (fun ρ us w6 ho ht hc hl hsrc hW => ?_)
    obtain ⟨v6, l6, m6⟩ := lookup_mem (hsrc 6 (by exact (List.mem_singleton.2 rfl : (6 : Nat) ∈ [6])))
    obtain ⟨k, is, rfl, _⟩ := hW.2 6 v6 m6 rfl
    have e147 := ((ht 147 (by decide)).trans (show _ = (us.lookup 6).getD undef from rfl)).trans (show _ = (.tuple #[.int .i64 (k : Int), .bool is] : Value) by rw [l6]; rfl)
    change _ = Result.ok (Next.value (tupAt 1 ((us.lookup 6).getD undef))) w6
    rw [l6]
    clear ht ho hl hsrc hW l6 m6
    simp only [execOp, e147]
    go_simp
    rfl
  · (refine OpH.rd rfl rfl (fun ρ us w6 ho ht hc hl hsrc hW => ?_); have e155 := (ht 155 (by decide)).trans (show _ = (tupAt 0 ((us.lookup 6).getD undef) : Value) from rfl); clear ht ho; simp only [execOp, e155]; go_simp; try rfl)
  · (refine OpH.rd rfl rfl (fun ρ us w6 ho ht hc hl hsrc hW => ?_); have e156 := (ht 156 (by decide)).trans (show _ = (tupAt 1 ((us.lookup 6).getD undef) : Value) from rfl); clear ht ho; simp only [execOp, e156]; go_simp; try rfl)
  -- TSAF
  · intro us wz hmem hW
    obtain ⟨v6, l6, m6⟩ := lookup_mem (hmem 6 (by decide))
    obtain ⟨k, is, rfl, hp⟩ := hW.2 6 v6 m6 rfl
    refine hend _ wz k is ?_ ?_ hp hW.1
    · show tupAt 0 ((us.lookup 6).getD undef) = _; rw [l6]; rfl
    · show tupAt 1 ((us.lookup 6).getD undef) = _; rw [l6]; rfl
noncomputable def doReg22 : Code := ((Try.f20.body.bind (seekRegion 22)).getD .skip)
set_option maxRecDepth 100000 in
set_option maxHeartbeats 8000000 in
theorem do22 {Q : Exit → Act → World → Prop} {σ : Act} {w : World} {X : Nat → Option Obj} {β bb gr : Nat} {A0 A1 A2 A4 A5 : Option Addr} {n0 c0 n1 c1 n2 c2 n4 c4 n5 c5 : Nat} {b : Book} {kd id : Int} {nm dg : ByteArray} {P : Nat → Bool → Prop} (HOB : Hid (OB X β bb A0 n0 c0 A1 n1 c1 A2 n2 c2 b w)) (RR : Hid (w.heap[gr]? = some (.cells #[.int .i64 kd, .int .i64 id, .string nm, .string dg, .slice A4 n4 c4, .slice A5 n5 c5] 54 (0, 0)))) (HS : Hid (∀ V, Below w.heap.size w V → Calls Try.prog 44 #[.slice A2 n2 c2, .string nm, .func (.func 45) #[] #[]] V (RF P V)))  (hσ : σ.tmps.size = 190) (s0 : σ.eval (.tmp 0) = .pointer (some ⟨bb, 0, none⟩)) (s3 : σ.eval (.tmp 3) = .pointer (some ⟨gr, 0, none⟩))
    (hend : ∀ (v : Nat → Value) (wz : World) (k : Nat) (is : Bool), v 15 = .int .i64 (k : Int) → v 16 = .bool is → P k is → Below w.heap.size w wz → Q .normal (putAll σ (([175, 176, 177, 178, 179, 180, 181, 174, 182, 183, 15, 16] : List Nat).map fun d => (d, v d))) wz) :
    doReg22.wp Try.prog Q σ w := by
  conv => arg 2; whnf
  refine region_free (by kernel_rfl) (by kernel_rfl) 190 hσ [175, 176, 177, 178, 179, 180, 181, 174, 182, 183, 15, 16] [6] [(181, 6)]
    [(175, [], fun _ => .pointer (some ⟨bb, 0, none⟩)), (176, [], fun _ => .pointer (some ⟨bb, 0, none⟩)), (177, [], fun _ => .pointer (some ⟨bb, 2, none⟩)), (178, [], fun _ => .slice A2 n2 c2), (179, [], fun _ => .pointer (some ⟨gr, 2, none⟩)), (180, [], fun _ => .string nm), (174, [6], fun l => l.getD 0 undef), (182, [6], fun l => tupAt 0 (l.getD 0 undef)), (183, [6], fun l => tupAt 1 (l.getD 0 undef)), (15, [6], fun l => tupAt 0 (l.getD 0 undef)), (16, [6], fun l => tupAt 1 (l.getD 0 undef))]
    [] [] [[], [175], [176], [177], [], [179], [178, 180], [181], [174], [174], [182], [183]]
    (WdB w (fun i v _ => i = 6 → ∃ (k : Nat) (is : Bool), v = .tuple #[.int .i64 (k : Int), .bool is] ∧ P k is)) (by kernel_rfl) .init ⟨?_, ?_, ?_, ?_, ?_, ?_, ?_, ?_, ?_, ?_, ?_, ?_, trivial⟩ ?_
  -- FAST12 cdot
  · (refine OpH.rd rfl rfl (fun ρ us w6 ho ht hc hl hsrc hW => ?_); have e0 := (ho 0 rfl).trans (show _ = (.pointer (some ⟨bb, 0, none⟩) : Value) from s0); clear ht ho; simp only [execOp, e0]; go_simp; try rfl)
  · (refine OpH.rd rfl rfl (fun ρ us w6 ho ht hc hl hsrc hW => ?_); have e175 := (ht 175 (by decide)).trans (show _ = (.pointer (some ⟨bb, 0, none⟩) : Value) from rfl); clear ht ho; simp only [execOp, e175]; go_simp; try rfl)
  · (refine OpH.rd rfl rfl (fun ρ us w6 ho ht hc hl hsrc hW => ?_); have e176 := (ht 176 (by decide)).trans (show _ = (.pointer (some ⟨bb, 0, none⟩) : Value) from rfl); clear ht ho; simp only [execOp, e176]; go_simp; try rfl)
  · (refine OpH.rd rfl rfl (fun ρ us w6 ho ht hc hl hsrc hW => ?_); have e177 := (ht 177 (by decide)).trans (show _ = (.pointer (some ⟨bb, 2, none⟩) : Value) from rfl); have r7 := (HOB.out.all hW.1).row; have y0 := cell_of_row _ _ 0 _ _ _ r7; have y1 := cell_of_row _ _ 1 _ _ _ r7; have y2 := cell_of_row _ _ 2 _ _ _ r7; have y3 := cell_of_row _ _ 3 _ _ _ r7; clear r7; clear ht ho; simp only [execOp, e177]; go_simp; try rfl)
  · (refine OpH.rd rfl rfl (fun ρ us w6 ho ht hc hl hsrc hW => ?_); have e3 := (ho 3 rfl).trans (show _ = (.pointer (some ⟨gr, 0, none⟩) : Value) from s3); clear ht ho; simp only [execOp, e3]; go_simp; try rfl)
  · (refine OpH.rd rfl rfl (fun ρ us w6 ho ht hc hl hsrc hW => ?_); have e179 := (ht 179 (by decide)).trans (show _ = (.pointer (some ⟨gr, 2, none⟩) : Value) from rfl); have r8 := (hW.1.block _ (Array.getElem?_eq_some_iff.1 RR.out).1).trans RR.out; have z0 := cell_of_row _ _ 0 _ _ _ r8; have z1 := cell_of_row _ _ 1 _ _ _ r8; have z2 := cell_of_row _ _ 2 _ _ _ r8; have z3 := cell_of_row _ _ 3 _ _ _ r8; have z4 := cell_of_row _ _ 4 _ _ _ r8; have z5 := cell_of_row _ _ 5 _ _ _ r8; clear r8; clear ht ho; simp only [execOp, e179]; go_simp; try rfl)
  · refine OpH.wr rfl (fun Z us w6 ho ht hni hlim hreq hW K hK => ?_)
    have e178 := (ht 178 (by decide)).trans (show _ = (.slice A2 n2 c2 : Value) from rfl)
    have e180 := (ht 180 (by decide)).trans (show _ = (.string nm : Value) from rfl)
    have hcl := HS.out w6 hW.1
    have hfn : ∀ g, Z.eval (.func g) = .func (.func g) #[] #[] := fun _ => rfl
    refine step_call rfl 44 #[.tmp 178, .tmp 180, .func 45] #[26, 9, 92] rfl Try.func44 (by kernel_rfl) (by kernel_rfl) #[.slice A2 n2 c2, .string nm, .func (.func 45) #[] #[]] (by simp [e178, e180, hfn]; try first | done | rfl | exact ⟨rfl, rfl⟩) (hcl) ?_
    rintro e w7 ⟨k, is, rfl, hp, hb7⟩
    exact ⟨_, rfl, hK _ _ (hW.snoc hb7 (fun j v h => h) (fun _ => ⟨k, is, rfl, hp⟩))⟩
  · (refine OpH.rd rfl rfl (fun ρ us w6 ho ht hc hl hsrc hW => ?_); have e181 := (ht 181 (by decide)).trans (show _ = ((us.lookup 6).getD undef : Value) from rfl); clear ht ho; simp only [execOp, e181]; go_simp; try rfl)
  · refine OpH.rd rfl rfl (fun ρ us w6 ho ht hc hl hsrc hW => ?_)
    obtain ⟨v6, l6, m6⟩ := lookup_mem (hsrc 6 (by exact (List.mem_singleton.2 rfl : (6 : Nat) ∈ [6])))
    obtain ⟨k, is, rfl, _⟩ := hW.2 6 v6 m6 rfl
    have e174 := ((ht 174 (by decide)).trans (show _ = (us.lookup 6).getD undef from rfl)).trans (show _ = (.tuple #[.int .i64 (k : Int), .bool is] : Value) by rw [l6]; rfl)
    change _ = Result.ok (Next.value (tupAt 0 ((us.lookup 6).getD undef))) w6
    rw [l6]
    clear ht ho hl hsrc hW l6 m6
    simp only [execOp, e174]
    go_simp
    rfl
  · refine OpH.rd rfl rfl (fun ρ us w6 ho ht hc hl hsrc hW => ?_)
    obtain ⟨v6, l6, m6⟩ := lookup_mem (hsrc 6 (by exact (List.mem_singleton.2 rfl : (6 : Nat) ∈ [6])))
    obtain ⟨k, is, rfl, _⟩ := hW.2 6 v6 m6 rfl
    have e174 := ((ht 174 (by decide)).trans (show _ = (us.lookup 6).getD undef from rfl)).trans (show _ = (.tuple #[.int .i64 (k : Int), .bool is] : Value) by rw [l6]; rfl)
    change _ = Result.ok (Next.value (tupAt 1 ((us.lookup 6).getD undef))) w6
    rw [l6]
    clear ht ho hl hsrc hW l6 m6
    simp only [execOp, e174]
    go_simp
    rfl
  · (refine OpH.rd rfl rfl (fun ρ us w6 ho ht hc hl hsrc hW => ?_); have e182 := (ht 182 (by decide)).trans (show _ = (tupAt 0 ((us.lookup 6).getD undef) : Value) from rfl); clear ht ho; simp only [execOp, e182]; go_simp; try rfl)
  · (refine OpH.rd rfl rfl (fun ρ us w6 ho ht hc hl hsrc hW => ?_); have e183 := (ht 183 (by decide)).trans (show _ = (tupAt 1 ((us.lookup 6).getD undef) : Value) from rfl); clear ht ho; simp only [execOp, e183]; go_simp; try rfl)
  -- TSAF
  · intro us wz hmem hW
    obtain ⟨v6, l6, m6⟩ := lookup_mem (hmem 6 (by decide))
    obtain ⟨k, is, rfl, hp⟩ := hW.2 6 v6 m6 rfl
    refine hend _ wz k is ?_ ?_ hp hW.1
    · show tupAt 0 ((us.lookup 6).getD undef) = _; rw [l6]; rfl
    · show tupAt 1 ((us.lookup 6).getD undef) = _; rw [l6]; rfl
/-- A store into a field of the box. -/
def stF (bb k : Nat) (v : Value) (W : World) : World := W.setCell ⟨bb, k, none⟩ v
/-- What neither the call nor the store writes. -/
theorem _root_.Go.Silo.WdC.kept {α : Type} {T : TypeId} {E : Enc α} {β bb k s1 s2 : Nat} {S : Nat → Prop} {A : Option Addr} {l' : List α} {w W : World} {R : Nat → Value → World → Prop} {us : List (Nat × Value)} (h : WdC w R s1 (RS T E β S A l') s2 (stF bb k) us W) {g : Nat} (hg : g < w.heap.size) (h0 : some g ≠ ablk A) (hb : g ≠ bb) : W.heap[g]? = w.heap[g]? := by
  cases h with
  | pre a _ _ _ => exact a.block g hg
  | mid a c _ _ =>
    obtain ⟨_, _, _, _, _, hc, _⟩ := c
    exact (hc.agree g h0 (Nat.lt_of_lt_of_le hg a.size)).trans (a.block g hg)
  | fin a c _ _ =>
    obtain ⟨_, _, _, _, _, hc, _⟩ := c
    exact (heap_setCell_other _ ⟨bb, k, none⟩ g _ (fun e => hb e)).trans ((hc.agree g h0 (Nat.lt_of_lt_of_le hg a.size)).trans (a.block g hg))
noncomputable def doReg6 : Code := ((Try.f20.body.bind (seekRegion 6)).getD .skip)
set_option maxRecDepth 100000 in
set_option maxHeartbeats 8000000 in
theorem do6 {Q : Exit → Act → World → Prop} {σ : Act} {w : World} {X : Nat → Option Obj} {β bb gr : Nat} {A0 A1 A2 A5 : Option Addr} {n0 c0 n1 c1 n2 c2 b4 o4 c4 n5 c5 : Nat} {b : Book} {i : Nat} {is : Bool} {kd id : Int} {nm dg : ByteArray} {q0 q1 : Int} {xs : List Slot} (hok : I64 id ∧ I64 q0 ∧ I64 q1) (HOB : Hid (OB X β bb A0 n0 c0 A1 n1 c1 A2 n2 c2 b w)) (RR : Hid (w.heap[gr]? = some (.cells #[.int .i64 kd, .int .i64 id, .string nm, .string dg, .slice (some ⟨b4, o4, none⟩) 2 c4, .slice A5 n5 c5] 54 (0, 0)))) (hgb : gr ≠ bb) (hg0 : some gr ≠ ablk A0) (hi : i ≤ n0) (his : is = true → i < n0) (hn6 : n0 ≤ 999999) (HCL : Hid (∀ V, Below w.heap.size w V → Calls Try.prog 39 #[.slice A5 n5 c5] V (RetOwn 67 slotE V xs))) (hb4 : b4 < w.heap.size ∧ some b4 ≠ ablk A0 ∧ b4 ≠ bb) (HC4 : Hid (∀ V : World, V.heap[b4]? = w.heap[b4]? → V.cell? ⟨b4, o4, none⟩ = some (.int .i64 q0) ∧ V.cell? ⟨b4, o4 + 1, none⟩ = some (.int .i64 q1)))  (hσ : σ.tmps.size = 190) (s0 : σ.eval (.tmp 0) = .pointer (some ⟨bb, 0, none⟩)) (s3 : σ.eval (.tmp 3) = .pointer (some ⟨gr, 0, none⟩)) (s5 : σ.eval (.tmp 5) = .int .i64 (i : Int)) (s6 : σ.eval (.tmp 6) = .bool is)
    (hend : ∀ (v : Nat → Value) (wz : World) (A' : Option Addr) (n' c' : Nat), OB X β bb A' n' c' A1 n1 c1 A2 n2 c2 { b with stripes := setL i is (⟨id, q0, q1, xs⟩ : Stripe) b.stripes } wz → wz.heap[gr]? = some (.cells #[.int .i64 kd, .int .i64 id, .string nm, .string dg, .slice (some ⟨b4, o4, none⟩) 2 c4, .slice A5 n5 c5] 54 (0, 0)) → Below β w wz → Q .normal (putAll σ (([43, 44, 45, 46, 47, 48, 49, 50, 51, 52, 53, 54, 55, 56, 57, 58, 59, 60, 61, 62, 63, 64, 65, 66] : List Nat).map fun d => (d, v d))) wz) :
    doReg6.wp Try.prog Q σ w := by
  conv => arg 2; whnf
  refine region_free (by kernel_rfl) (by kernel_rfl) 190 hσ [43, 44, 45, 46, 47, 48, 49, 50, 51, 52, 53, 54, 55, 56, 57, 58, 59, 60, 61, 62, 63, 64, 65, 66] [19, 21, 24] [(62, 19), (64, 21)]
    [(43, [], fun _ => .pointer (some ⟨bb, 0, none⟩)), (44, [], fun _ => .pointer (some ⟨bb, 0, none⟩)), (45, [], fun _ => .pointer (some ⟨bb, 0, none⟩)), (46, [], fun _ => .pointer (some ⟨bb, 0, none⟩)), (47, [], fun _ => .slice A0 n0 c0), (48, [], fun _ => .int .i64 (i : Int)), (49, [], fun _ => .bool is), (50, [], fun _ => .pointer (some ⟨gr, 1, none⟩)), (51, [], fun _ => .int .i64 id), (52, [], fun _ => .pointer (some ⟨gr, 4, none⟩)), (53, [], fun _ => .slice (some ⟨b4, o4, none⟩) 2 c4), (54, [], fun _ => .pointer (some ⟨b4, o4, none⟩)), (55, [], fun _ => .int .i64 q0), (56, [], fun _ => .pointer (some ⟨gr, 4, none⟩)), (57, [], fun _ => .slice (some ⟨b4, o4, none⟩) 2 c4), (58, [], fun _ => .pointer (some ⟨b4, o4 + 1, none⟩)), (59, [], fun _ => .int .i64 q1), (60, [], fun _ => .pointer (some ⟨gr, 5, none⟩)), (61, [], fun _ => .slice A5 n5 c5), (63, [19], fun l => .agg #[.int .i64 id, .int .i64 q0, .int .i64 q1, l.getD 0 undef]), (65, [], fun _ => .pointer (some ⟨bb, 0, none⟩)), (66, [], fun _ => .pointer (some ⟨bb, 0, none⟩))]
    [[], [], [], [], [21], [], [], [], [], [], [], [], [], [], [], [], [], [], [], [21], [21]] [[], [], [], [], [], [], [], [], [], [], [], [], [], [], [], [], [], [], [], [], [], [19], [], [], [21]] [[], [], [44], [45], [46], [], [], [], [50], [], [52], [53], [54], [], [56], [57], [58], [], [60], [61], [51, 55, 59, 62], [47, 48, 49, 63], [43], [65], [66, 64]]
    (WdC w (fun i v W => i = 19 → ∃ A c, v = .slice A xs.length c ∧ Sl true 67 slotE W (fun q => w.heap.size ≤ q) A xs.length c xs) 21 (RS 69 (stripeE true) β (NS bb A0 A1 A2) A0 (setL i is (⟨id, q0, q1, xs⟩ : Stripe) b.stripes)) 24 (stF bb 0)) (by kernel_rfl) .init ⟨?_, ?_, ?_, ?_, ?_, ?_, ?_, ?_, ?_, ?_, ?_, ?_, ?_, ?_, ?_, ?_, ?_, ?_, ?_, ?_, ?_, ?_, ?_, ?_, ?_, trivial⟩ ?_
  -- FAST25 cdot
  · (refine OpH.rd rfl rfl (fun ρ us w6 ho ht hc hl hsrc hW => ?_); have e0 := (ho 0 rfl).trans (show _ = (.pointer (some ⟨bb, 0, none⟩) : Value) from s0); clear ht ho; simp only [execOp, e0]; go_simp; try rfl)
  · (refine OpH.rd rfl rfl (fun ρ us w6 ho ht hc hl hsrc hW => ?_); have e0 := (ho 0 rfl).trans (show _ = (.pointer (some ⟨bb, 0, none⟩) : Value) from s0); clear ht ho; simp only [execOp, e0]; go_simp; try rfl)
  · (refine OpH.rd rfl rfl (fun ρ us w6 ho ht hc hl hsrc hW => ?_); have e44 := (ht 44 (by decide)).trans (show _ = (.pointer (some ⟨bb, 0, none⟩) : Value) from rfl); clear ht ho; simp only [execOp, e44]; go_simp; try rfl)
  · (refine OpH.rd rfl rfl (fun ρ us w6 ho ht hc hl hsrc hW => ?_); have e45 := (ht 45 (by decide)).trans (show _ = (.pointer (some ⟨bb, 0, none⟩) : Value) from rfl); clear ht ho; simp only [execOp, e45]; go_simp; try rfl)
  · (refine OpH.rd rfl rfl (fun ρ us w6 ho ht hc hl hsrc hW => ?_); have e46 := (ht 46 (by decide)).trans (show _ = (.pointer (some ⟨bb, 0, none⟩) : Value) from rfl); have r7 := (HOB.out.all (hW.early (hl 21 (by decide))).1).row; have y0 := cell_of_row _ _ 0 _ _ _ r7; have y1 := cell_of_row _ _ 1 _ _ _ r7; have y2 := cell_of_row _ _ 2 _ _ _ r7; have y3 := cell_of_row _ _ 3 _ _ _ r7; clear r7; clear ht ho; simp only [execOp, e46]; go_simp; try rfl)
  · (refine OpH.rd rfl rfl (fun ρ us w6 ho ht hc hl hsrc hW => ?_); have e5 := (ho 5 rfl).trans (show _ = (.int .i64 (i : Int) : Value) from s5); clear ht ho; simp only [execOp, e5]; go_simp; try rfl)
  · (refine OpH.rd rfl rfl (fun ρ us w6 ho ht hc hl hsrc hW => ?_); have e6 := (ho 6 rfl).trans (show _ = (.bool is : Value) from s6); clear ht ho; simp only [execOp, e6]; go_simp; try rfl)
  · (refine OpH.rd rfl rfl (fun ρ us w6 ho ht hc hl hsrc hW => ?_); have e3 := (ho 3 rfl).trans (show _ = (.pointer (some ⟨gr, 0, none⟩) : Value) from s3); clear ht ho; simp only [execOp, e3]; go_simp; try rfl)
  · (refine OpH.rd rfl rfl (fun ρ us w6 ho ht hc hl hsrc hW => ?_); have e50 := (ht 50 (by decide)).trans (show _ = (.pointer (some ⟨gr, 1, none⟩) : Value) from rfl); have r8 := (hW.kept (Array.getElem?_eq_some_iff.1 RR.out).1 hg0 hgb).trans RR.out; have z0 := cell_of_row _ _ 0 _ _ _ r8; have z1 := cell_of_row _ _ 1 _ _ _ r8; have z2 := cell_of_row _ _ 2 _ _ _ r8; have z3 := cell_of_row _ _ 3 _ _ _ r8; have z4 := cell_of_row _ _ 4 _ _ _ r8; have z5 := cell_of_row _ _ 5 _ _ _ r8; clear r8; clear ht ho; simp only [execOp, e50]; go_simp; try rfl)
  · (refine OpH.rd rfl rfl (fun ρ us w6 ho ht hc hl hsrc hW => ?_); have e3 := (ho 3 rfl).trans (show _ = (.pointer (some ⟨gr, 0, none⟩) : Value) from s3); clear ht ho; simp only [execOp, e3]; go_simp; try rfl)
  · (refine OpH.rd rfl rfl (fun ρ us w6 ho ht hc hl hsrc hW => ?_); have e52 := (ht 52 (by decide)).trans (show _ = (.pointer (some ⟨gr, 4, none⟩) : Value) from rfl); have r8 := (hW.kept (Array.getElem?_eq_some_iff.1 RR.out).1 hg0 hgb).trans RR.out; have z0 := cell_of_row _ _ 0 _ _ _ r8; have z1 := cell_of_row _ _ 1 _ _ _ r8; have z2 := cell_of_row _ _ 2 _ _ _ r8; have z3 := cell_of_row _ _ 3 _ _ _ r8; have z4 := cell_of_row _ _ 4 _ _ _ r8; have z5 := cell_of_row _ _ 5 _ _ _ r8; clear r8; clear ht ho; simp only [execOp, e52]; go_simp; try rfl)
  · (refine OpH.rd rfl rfl (fun ρ us w6 ho ht hc hl hsrc hW => ?_); have e53 := (ht 53 (by decide)).trans (show _ = (.slice (some ⟨b4, o4, none⟩) 2 c4 : Value) from rfl); clear ht ho; simp only [execOp, e53]; go_simp; try rfl)
  · (refine OpH.rd rfl rfl (fun ρ us w6 ho ht hc hl hsrc hW => ?_); have e54 := (ht 54 (by decide)).trans (show _ = (.pointer (some ⟨b4, o4, none⟩) : Value) from rfl); obtain ⟨y0, y1⟩ := HC4.out w6 (hW.kept hb4.1 hb4.2.1 hb4.2.2); clear ht ho; simp only [execOp, e54]; go_simp; try rfl)
  · (refine OpH.rd rfl rfl (fun ρ us w6 ho ht hc hl hsrc hW => ?_); have e3 := (ho 3 rfl).trans (show _ = (.pointer (some ⟨gr, 0, none⟩) : Value) from s3); clear ht ho; simp only [execOp, e3]; go_simp; try rfl)
  · (refine OpH.rd rfl rfl (fun ρ us w6 ho ht hc hl hsrc hW => ?_); have e56 := (ht 56 (by decide)).trans (show _ = (.pointer (some ⟨gr, 4, none⟩) : Value) from rfl); have r8 := (hW.kept (Array.getElem?_eq_some_iff.1 RR.out).1 hg0 hgb).trans RR.out; have z0 := cell_of_row _ _ 0 _ _ _ r8; have z1 := cell_of_row _ _ 1 _ _ _ r8; have z2 := cell_of_row _ _ 2 _ _ _ r8; have z3 := cell_of_row _ _ 3 _ _ _ r8; have z4 := cell_of_row _ _ 4 _ _ _ r8; have z5 := cell_of_row _ _ 5 _ _ _ r8; clear r8; clear ht ho; simp only [execOp, e56]; go_simp; try rfl)
  · (refine OpH.rd rfl rfl (fun ρ us w6 ho ht hc hl hsrc hW => ?_); have e57 := (ht 57 (by decide)).trans (show _ = (.slice (some ⟨b4, o4, none⟩) 2 c4 : Value) from rfl); clear ht ho; simp only [execOp, e57]; go_simp; try rfl)
  · (refine OpH.rd rfl rfl (fun ρ us w6 ho ht hc hl hsrc hW => ?_); have e58 := (ht 58 (by decide)).trans (show _ = (.pointer (some ⟨b4, o4 + 1, none⟩) : Value) from rfl); obtain ⟨y0, y1⟩ := HC4.out w6 (hW.kept hb4.1 hb4.2.1 hb4.2.2); clear ht ho; simp only [execOp, e58]; go_simp; try rfl)
  · (refine OpH.rd rfl rfl (fun ρ us w6 ho ht hc hl hsrc hW => ?_); have e3 := (ho 3 rfl).trans (show _ = (.pointer (some ⟨gr, 0, none⟩) : Value) from s3); clear ht ho; simp only [execOp, e3]; go_simp; try rfl)
  · (refine OpH.rd rfl rfl (fun ρ us w6 ho ht hc hl hsrc hW => ?_); have e60 := (ht 60 (by decide)).trans (show _ = (.pointer (some ⟨gr, 5, none⟩) : Value) from rfl); have r8 := (hW.kept (Array.getElem?_eq_some_iff.1 RR.out).1 hg0 hgb).trans RR.out; have z0 := cell_of_row _ _ 0 _ _ _ r8; have z1 := cell_of_row _ _ 1 _ _ _ r8; have z2 := cell_of_row _ _ 2 _ _ _ r8; have z3 := cell_of_row _ _ 3 _ _ _ r8; have z4 := cell_of_row _ _ 4 _ _ _ r8; have z5 := cell_of_row _ _ 5 _ _ _ r8; clear r8; clear ht ho; simp only [execOp, e60]; go_simp; try rfl)
  · refine OpH.wr rfl (fun Z us w6 ho ht hni hlim hreq hW K hK => ?_)
    have e61 := (ht 61 (by decide)).trans (show _ = (.slice A5 n5 c5 : Value) from rfl)
    have hn := hlim 21 (by decide)
    have hb6 := (hW.early hn).1
    have hcl := HCL.out w6 hb6
    refine step_call rfl 39 #[.tmp 61] #[52] rfl Try.func39 (by kernel_rfl) (by kernel_rfl) #[.slice A5 n5 c5] (by simp [e61]; try first | done | rfl | exact ⟨rfl, rfl⟩) (hcl) ?_
    rintro e w7 ⟨A3, c3, rfl, hown, hb7⟩
    exact ⟨_, rfl, hK _ _ (hW.snoc (by decide) (by decide) hn hb7 (fun j v h hj => by obtain ⟨A, c, e, t⟩ := h hj; exact ⟨A, c, e, t.all hb7⟩) (fun _ => ⟨A3, c3, rfl, (hown.sl (tg := true)).mono (fun q hq _ => Nat.le_trans hb6.size (hq.elim (fun h => h) (fun h => h)))⟩))⟩
  · refine OpH.rd rfl rfl (fun ρ us w6 ho ht hc hl hsrc hW => ?_)
    have hE := hW.early (hl 21 (by decide))
    obtain ⟨v6, l6, m6⟩ := lookup_mem (hsrc 19 (by exact (List.mem_singleton.2 rfl : (19 : Nat) ∈ [19])))
    obtain ⟨A3, c3, rfl, _⟩ := hE.2.1 19 v6 m6 rfl
    have e51 := (ht 51 (by decide)).trans (show _ = (.int .i64 id : Value) from rfl)
    have e55 := (ht 55 (by decide)).trans (show _ = (.int .i64 q0 : Value) from rfl)
    have e59 := (ht 59 (by decide)).trans (show _ = (.int .i64 q1 : Value) from rfl)
    have e62 := ((ht 62 (by decide)).trans (show _ = (us.lookup 19).getD undef from rfl)).trans (show _ = (.slice A3 xs.length c3 : Value) by rw [l6]; rfl)
    change _ = Result.ok (Next.value (.agg #[.int .i64 id, .int .i64 q0, .int .i64 q1, (us.lookup 19).getD undef])) w6
    rw [l6]
    clear ht ho hl hsrc hW hE l6 m6
    simp only [execOp, List.map_toArray, List.map_cons, List.map_nil, e51, e55, e59, e62]
    go_simp
  · refine OpH.wr rfl (fun Z us w6 ho ht hni hlim hreq hW K hK => ?_)
    have hE := hW.early hni
    have e47 := (ht 47 (by decide)).trans (show _ = (.slice A0 n0 c0 : Value) from rfl)
    have e48 := (ht 48 (by decide)).trans (show _ = (.int .i64 (i : Int) : Value) from rfl)
    have e49 := (ht 49 (by decide)).trans (show _ = (.bool is : Value) from rfl)
    obtain ⟨v6, l6, m6⟩ := lookup_mem (hreq 19 (by decide))
    obtain ⟨A3, c3, rfl, hsl⟩ := hE.2.1 19 v6 m6 rfl
    have e63 := ((ht 63 (by decide)).trans (show _ = (.agg #[.int .i64 id, .int .i64 q0, .int .i64 q1, (us.lookup 19).getD undef]) from rfl)).trans (show _ = (.agg #[.int .i64 id, .int .i64 q0, .int .i64 q1, .slice A3 xs.length c3] : Value) by rw [l6]; rfl)
    have hob := HOB.out.all hE.1
    have hcl := set_Stripe (w := w6) (x := (⟨id, q0, q1, xs⟩ : Stripe)) hob.st hi his hn6 (Nat.le_trans hob.lo (Nat.le_of_lt hob.box)) (⟨_, _, _, rfl, hok, hsl.mono (fun q hq hlt => ⟨⟨(by have := HOB.out.box; omega), fun e => by have := (HOB.out.st.lt q e.symm).2; omega, fun e => by have := (HOB.out.th.lt q e.symm).2; omega, fun e => by have := (HOB.out.ta.lt q e.symm).2; omega⟩, fun e => by have := (HOB.out.st.lt q e.symm).2; omega⟩)⟩)
    refine step_call rfl 38 #[.tmp 47, .tmp 48, .tmp 49, .tmp 63] #[24, 3, 4, 69] rfl Try.func38 (by kernel_rfl) (by kernel_rfl) #[.slice A0 n0 c0, .int .i64 (i : Int), .bool is, .agg #[.int .i64 id, .int .i64 q0, .int .i64 q1, .slice A3 xs.length c3]] (by simp [e47, e48, e49, e63]; try first | done | rfl | exact ⟨rfl, rfl⟩) (hcl) ?_
    rintro e w7 ⟨A', n', c', rfl, hown, hchg, hat⟩
    exact ⟨_, rfl, hK _ _ (hW.call hni ⟨A', n', c', rfl, hown, hchg, hat⟩)⟩
  · (refine OpH.rd rfl rfl (fun ρ us w6 ho ht hc hl hsrc hW => ?_); have e43 := (ht 43 (by decide)).trans (show _ = (.pointer (some ⟨bb, 0, none⟩) : Value) from rfl); clear ht ho; simp only [execOp, e43]; go_simp; try rfl)
  · (refine OpH.rd rfl rfl (fun ρ us w6 ho ht hc hl hsrc hW => ?_); have e65 := (ht 65 (by decide)).trans (show _ = (.pointer (some ⟨bb, 0, none⟩) : Value) from rfl); clear ht ho; simp only [execOp, e65]; go_simp; try rfl)
  · refine OpH.wr rfl (fun Z us w6 ho ht hni hlim hreq hW K hK => ?_)
    obtain ⟨us0, W0, v0, rfl, hb0, ⟨A', n', c', rfl, hown, hchg, hat⟩, _, _⟩ := hW.half (hreq 21 (by decide)) hni
    have hob := HOB.out.all hb0
    have hrow := (hchg.agree bb (fun e => hob.ap.b0 e.symm) hob.box).trans hob.row
    have f0 := (cell_of_row w6 _ 0 _ _ _ hrow).trans (show _ = some (Value.slice A0 n0 c0) from rfl)
    have f4 := frozen_of_row w6 _ 0 _ _ hrow
    have e66 := (ht 66 (by decide)).trans (show _ = (.pointer (some ⟨bb, 0, none⟩) : Value) from rfl)
    have e64 := ((ht 64 (by decide)).trans (show _ = ((us0 ++ [(21, Value.slice A' n' c')]).lookup 21).getD undef from rfl)).trans (show _ = (.slice A' n' c' : Value) by rw [lookup_snoc_new (by assumption)]; rfl)
    have hdone : WdC w (fun i v W => i = 19 → ∃ A c, v = .slice A xs.length c ∧ Sl true 67 slotE W (fun q => w.heap.size ≤ q) A xs.length c xs) 21 (RS 69 (stripeE true) β (NS bb A0 A1 A2) A0 (setL i is (⟨id, q0, q1, xs⟩ : Stripe) b.stripes)) 24 (stF bb 0) (us0 ++ [(21, Value.slice A' n' c')] ++ [(24, undef)]) (stF bb 0 (Value.slice A' n' c') w6) := .fin hb0 ⟨A', n', c', rfl, hown, hchg, hat⟩ (by assumption) (by assumption)
    have HDN := Lib.hid hdone; clear hdone hW hni hlim hreq ho ht hrow hob hown hchg hat hb0
    rw [if_pos (by simp [Region.wanted])]
    unfold Oper.wp
    generalize Z.eval = ρ at *
    simp only [execOp, e66, e64]
    go_simp
    exact hK undef _ HDN.out
  -- TSAF
  · intro us w9 hmem hW
    have hkr := (hW.kept (Array.getElem?_eq_some_iff.1 RR.out).1 hg0 hgb).trans RR.out
    obtain ⟨us0, W0, W1, v0, x0, rfl, hb0, ⟨A', n', c', rfl, hown, hchg, hat⟩, rfl⟩ := hW.last (hmem 24 (by decide)) (by decide)
    have hp := (HOB.out.all hb0).put0 hchg hown hat
    exact hend _ _ A' n' c' hp.1 hkr ((hb0.mono (Nat.le_trans HOB.out.lo (Nat.le_of_lt HOB.out.box))).trans hp.2)
noncomputable def doReg14 : Code := ((Try.f20.body.bind (seekRegion 14)).getD .skip)
set_option maxRecDepth 100000 in
set_option maxHeartbeats 8000000 in
theorem do14 {Q : Exit → Act → World → Prop} {σ : Act} {w : World} {X : Nat → Option Obj} {β bb gr : Nat} {A0 A1 A2 A4 A5 : Option Addr} {n0 c0 n1 c1 n2 c2 n4 c4 n5 c5 : Nat} {b : Book} {i : Nat} {is : Bool} {kd id : Int} {nm dg : ByteArray} {man : Bool} {xs : List Int} (hok : StrOk dg ∧ I64 id) (_hman : decide (kd = 5) = man) (hman2 : (kd == 5) = man) (HOB : Hid (OB X β bb A0 n0 c0 A1 n1 c1 A2 n2 c2 b w)) (RR : Hid (w.heap[gr]? = some (.cells #[.int .i64 kd, .int .i64 id, .string nm, .string dg, .slice A4 n4 c4, .slice A5 n5 c5] 54 (0, 0)))) (hgb : gr ≠ bb) (hg0 : some gr ≠ ablk A1) (hi : i ≤ n1) (his : is = true → i < n1) (hn6 : n1 ≤ 999999) (HCL : Hid (∀ V, Below w.heap.size w V → Calls Try.prog 31 #[.slice A4 n4 c4] V (RetOwn 3 intE V xs)))  (hσ : σ.tmps.size = 190) (s0 : σ.eval (.tmp 0) = .pointer (some ⟨bb, 0, none⟩)) (s3 : σ.eval (.tmp 3) = .pointer (some ⟨gr, 0, none⟩)) (s9 : σ.eval (.tmp 9) = .int .i64 (i : Int)) (s10 : σ.eval (.tmp 10) = .bool is)
    (hend : ∀ (v : Nat → Value) (wz : World) (A' : Option Addr) (n' c' : Nat), OB X β bb A0 n0 c0 A' n' c' A2 n2 c2 { b with things := setL i is (⟨dg, id, man, xs⟩ : Entry) b.things } wz → wz.heap[gr]? = some (.cells #[.int .i64 kd, .int .i64 id, .string nm, .string dg, .slice A4 n4 c4, .slice A5 n5 c5] 54 (0, 0)) → Below β w wz → Q .normal (putAll σ (([107, 108, 109, 110, 111, 112, 113, 114, 115, 116, 117, 118, 119, 120, 121, 122, 123, 124, 125, 126, 127] : List Nat).map fun d => (d, v d))) wz) :
    doReg14.wp Try.prog Q σ w := by
  conv => arg 2; whnf
  refine region_free (by kernel_rfl) (by kernel_rfl) 190 hσ [107, 108, 109, 110, 111, 112, 113, 114, 115, 116, 117, 118, 119, 120, 121, 122, 123, 124, 125, 126, 127] [16, 18, 21] [(123, 16), (125, 18)]
    [(107, [], fun _ => .pointer (some ⟨bb, 0, none⟩)), (108, [], fun _ => .pointer (some ⟨bb, 0, none⟩)), (109, [], fun _ => .pointer (some ⟨bb, 0, none⟩)), (110, [], fun _ => .pointer (some ⟨bb, 1, none⟩)), (111, [], fun _ => .slice A1 n1 c1), (112, [], fun _ => .int .i64 (i : Int)), (113, [], fun _ => .bool is), (114, [], fun _ => .pointer (some ⟨gr, 3, none⟩)), (115, [], fun _ => .string dg), (116, [], fun _ => .pointer (some ⟨gr, 1, none⟩)), (117, [], fun _ => .int .i64 id), (118, [], fun _ => .pointer (some ⟨gr, 0, none⟩)), (119, [], fun _ => .int .i64 kd), (120, [], fun _ => .bool man), (121, [], fun _ => .pointer (some ⟨gr, 4, none⟩)), (122, [], fun _ => .slice A4 n4 c4), (124, [16], fun l => .agg #[.string dg, .int .i64 id, .bool man, l.getD 0 undef]), (126, [], fun _ => .pointer (some ⟨bb, 0, none⟩)), (127, [], fun _ => .pointer (some ⟨bb, 1, none⟩))]
    [[], [], [], [], [18], [], [], [], [], [], [], [], [], [], [], [], [18], [18]] [[], [], [], [], [], [], [], [], [], [], [], [], [], [], [], [], [], [], [16], [], [], [18]] [[], [], [108], [109], [110], [], [], [], [114], [], [116], [], [118], [119], [], [121], [122], [115, 117, 120, 123], [111, 112, 113, 124], [107], [126], [127, 125]]
    (WdC w (fun i v W => i = 16 → ∃ A c, v = .slice A xs.length c ∧ Sl true 3 intE W (fun q => w.heap.size ≤ q) A xs.length c xs) 18 (RS 71 (entryE true) β (NS bb A0 A1 A2) A1 (setL i is (⟨dg, id, man, xs⟩ : Entry) b.things)) 21 (stF bb 1)) (by kernel_rfl) .init ⟨?_, ?_, ?_, ?_, ?_, ?_, ?_, ?_, ?_, ?_, ?_, ?_, ?_, ?_, ?_, ?_, ?_, ?_, ?_, ?_, ?_, ?_, trivial⟩ ?_
  -- FAST22 cdot
  · (refine OpH.rd rfl rfl (fun ρ us w6 ho ht hc hl hsrc hW => ?_); have e0 := (ho 0 rfl).trans (show _ = (.pointer (some ⟨bb, 0, none⟩) : Value) from s0); clear ht ho; simp only [execOp, e0]; go_simp; try rfl)
  · (refine OpH.rd rfl rfl (fun ρ us w6 ho ht hc hl hsrc hW => ?_); have e0 := (ho 0 rfl).trans (show _ = (.pointer (some ⟨bb, 0, none⟩) : Value) from s0); clear ht ho; simp only [execOp, e0]; go_simp; try rfl)
  · (refine OpH.rd rfl rfl (fun ρ us w6 ho ht hc hl hsrc hW => ?_); have e108 := (ht 108 (by decide)).trans (show _ = (.pointer (some ⟨bb, 0, none⟩) : Value) from rfl); clear ht ho; simp only [execOp, e108]; go_simp; try rfl)
  · (refine OpH.rd rfl rfl (fun ρ us w6 ho ht hc hl hsrc hW => ?_); have e109 := (ht 109 (by decide)).trans (show _ = (.pointer (some ⟨bb, 0, none⟩) : Value) from rfl); clear ht ho; simp only [execOp, e109]; go_simp; try rfl)
  · (refine OpH.rd rfl rfl (fun ρ us w6 ho ht hc hl hsrc hW => ?_); have e110 := (ht 110 (by decide)).trans (show _ = (.pointer (some ⟨bb, 1, none⟩) : Value) from rfl); have r7 := (HOB.out.all (hW.early (hl 18 (by decide))).1).row; have y0 := cell_of_row _ _ 0 _ _ _ r7; have y1 := cell_of_row _ _ 1 _ _ _ r7; have y2 := cell_of_row _ _ 2 _ _ _ r7; have y3 := cell_of_row _ _ 3 _ _ _ r7; clear r7; clear ht ho; simp only [execOp, e110]; go_simp; try rfl)
  · (refine OpH.rd rfl rfl (fun ρ us w6 ho ht hc hl hsrc hW => ?_); have e9 := (ho 9 rfl).trans (show _ = (.int .i64 (i : Int) : Value) from s9); clear ht ho; simp only [execOp, e9]; go_simp; try rfl)
  · (refine OpH.rd rfl rfl (fun ρ us w6 ho ht hc hl hsrc hW => ?_); have e10 := (ho 10 rfl).trans (show _ = (.bool is : Value) from s10); clear ht ho; simp only [execOp, e10]; go_simp; try rfl)
  · (refine OpH.rd rfl rfl (fun ρ us w6 ho ht hc hl hsrc hW => ?_); have e3 := (ho 3 rfl).trans (show _ = (.pointer (some ⟨gr, 0, none⟩) : Value) from s3); clear ht ho; simp only [execOp, e3]; go_simp; try rfl)
  · (refine OpH.rd rfl rfl (fun ρ us w6 ho ht hc hl hsrc hW => ?_); have e114 := (ht 114 (by decide)).trans (show _ = (.pointer (some ⟨gr, 3, none⟩) : Value) from rfl); have r8 := (hW.kept (Array.getElem?_eq_some_iff.1 RR.out).1 hg0 hgb).trans RR.out; have z0 := cell_of_row _ _ 0 _ _ _ r8; have z1 := cell_of_row _ _ 1 _ _ _ r8; have z2 := cell_of_row _ _ 2 _ _ _ r8; have z3 := cell_of_row _ _ 3 _ _ _ r8; have z4 := cell_of_row _ _ 4 _ _ _ r8; have z5 := cell_of_row _ _ 5 _ _ _ r8; clear r8; clear ht ho; simp only [execOp, e114]; go_simp; try rfl)
  · (refine OpH.rd rfl rfl (fun ρ us w6 ho ht hc hl hsrc hW => ?_); have e3 := (ho 3 rfl).trans (show _ = (.pointer (some ⟨gr, 0, none⟩) : Value) from s3); clear ht ho; simp only [execOp, e3]; go_simp; try rfl)
  · (refine OpH.rd rfl rfl (fun ρ us w6 ho ht hc hl hsrc hW => ?_); have e116 := (ht 116 (by decide)).trans (show _ = (.pointer (some ⟨gr, 1, none⟩) : Value) from rfl); have r8 := (hW.kept (Array.getElem?_eq_some_iff.1 RR.out).1 hg0 hgb).trans RR.out; have z0 := cell_of_row _ _ 0 _ _ _ r8; have z1 := cell_of_row _ _ 1 _ _ _ r8; have z2 := cell_of_row _ _ 2 _ _ _ r8; have z3 := cell_of_row _ _ 3 _ _ _ r8; have z4 := cell_of_row _ _ 4 _ _ _ r8; have z5 := cell_of_row _ _ 5 _ _ _ r8; clear r8; clear ht ho; simp only [execOp, e116]; go_simp; try rfl)
  · (refine OpH.rd rfl rfl (fun ρ us w6 ho ht hc hl hsrc hW => ?_); have e3 := (ho 3 rfl).trans (show _ = (.pointer (some ⟨gr, 0, none⟩) : Value) from s3); clear ht ho; simp only [execOp, e3]; go_simp; try rfl)
  · (refine OpH.rd rfl rfl (fun ρ us w6 ho ht hc hl hsrc hW => ?_); have e118 := (ht 118 (by decide)).trans (show _ = (.pointer (some ⟨gr, 0, none⟩) : Value) from rfl); have r8 := (hW.kept (Array.getElem?_eq_some_iff.1 RR.out).1 hg0 hgb).trans RR.out; have z0 := cell_of_row _ _ 0 _ _ _ r8; have z1 := cell_of_row _ _ 1 _ _ _ r8; have z2 := cell_of_row _ _ 2 _ _ _ r8; have z3 := cell_of_row _ _ 3 _ _ _ r8; have z4 := cell_of_row _ _ 4 _ _ _ r8; have z5 := cell_of_row _ _ 5 _ _ _ r8; clear r8; clear ht ho; simp only [execOp, e118]; go_simp; try rfl)
  · (refine OpH.rd rfl rfl (fun ρ us w6 ho ht hc hl hsrc hW => ?_); have e119 := (ht 119 (by decide)).trans (show _ = (.int .i64 kd : Value) from rfl); clear ht ho; simp only [execOp, e119]; go_simp; all_goals (first | rfl | exact congrArg Value.bool hman | exact congrArg Value.bool hman2))
  · (refine OpH.rd rfl rfl (fun ρ us w6 ho ht hc hl hsrc hW => ?_); have e3 := (ho 3 rfl).trans (show _ = (.pointer (some ⟨gr, 0, none⟩) : Value) from s3); clear ht ho; simp only [execOp, e3]; go_simp; try rfl)
  · (refine OpH.rd rfl rfl (fun ρ us w6 ho ht hc hl hsrc hW => ?_); have e121 := (ht 121 (by decide)).trans (show _ = (.pointer (some ⟨gr, 4, none⟩) : Value) from rfl); have r8 := (hW.kept (Array.getElem?_eq_some_iff.1 RR.out).1 hg0 hgb).trans RR.out; have z0 := cell_of_row _ _ 0 _ _ _ r8; have z1 := cell_of_row _ _ 1 _ _ _ r8; have z2 := cell_of_row _ _ 2 _ _ _ r8; have z3 := cell_of_row _ _ 3 _ _ _ r8; have z4 := cell_of_row _ _ 4 _ _ _ r8; have z5 := cell_of_row _ _ 5 _ _ _ r8; clear r8; clear ht ho; simp only [execOp, e121]; go_simp; try rfl)
  · refine OpH.wr rfl (fun Z us w6 ho ht hni hlim hreq hW K hK => ?_)
    have e122 := (ht 122 (by decide)).trans (show _ = (.slice A4 n4 c4 : Value) from rfl)
    have hn := hlim 18 (by decide)
    have hb6 := (hW.early hn).1
    have hcl := HCL.out w6 hb6
    refine step_call rfl 31 #[.tmp 122] #[44] rfl Try.func31 (by kernel_rfl) (by kernel_rfl) #[.slice A4 n4 c4] (by simp [e122]; try first | done | rfl | exact ⟨rfl, rfl⟩) (hcl) ?_
    rintro e w7 ⟨A3, c3, rfl, hown, hb7⟩
    exact ⟨_, rfl, hK _ _ (hW.snoc (by decide) (by decide) hn hb7 (fun j v h hj => by obtain ⟨A, c, e, t⟩ := h hj; exact ⟨A, c, e, t.all hb7⟩) (fun _ => ⟨A3, c3, rfl, (hown.sl (tg := true)).mono (fun q hq _ => Nat.le_trans hb6.size (hq.elim (fun h => h) (fun h => h)))⟩))⟩
  · refine OpH.rd rfl rfl (fun ρ us w6 ho ht hc hl hsrc hW => ?_)
    have hE := hW.early (hl 18 (by decide))
    obtain ⟨v6, l6, m6⟩ := lookup_mem (hsrc 16 (by exact (List.mem_singleton.2 rfl : (16 : Nat) ∈ [16])))
    obtain ⟨A3, c3, rfl, _⟩ := hE.2.1 16 v6 m6 rfl
    have e115 := (ht 115 (by decide)).trans (show _ = (.string dg : Value) from rfl)
    have e117 := (ht 117 (by decide)).trans (show _ = (.int .i64 id : Value) from rfl)
    have e120 := (ht 120 (by decide)).trans (show _ = (.bool man : Value) from rfl)
    have e123 := ((ht 123 (by decide)).trans (show _ = (us.lookup 16).getD undef from rfl)).trans (show _ = (.slice A3 xs.length c3 : Value) by rw [l6]; rfl)
    change _ = Result.ok (Next.value (.agg #[.string dg, .int .i64 id, .bool man, (us.lookup 16).getD undef])) w6
    rw [l6]
    clear ht ho hl hsrc hW hE l6 m6
    simp only [execOp, List.map_toArray, List.map_cons, List.map_nil, e115, e117, e120, e123]
    go_simp
  · refine OpH.wr rfl (fun Z us w6 ho ht hni hlim hreq hW K hK => ?_)
    have hE := hW.early hni
    have e111 := (ht 111 (by decide)).trans (show _ = (.slice A1 n1 c1 : Value) from rfl)
    have e112 := (ht 112 (by decide)).trans (show _ = (.int .i64 (i : Int) : Value) from rfl)
    have e113 := (ht 113 (by decide)).trans (show _ = (.bool is : Value) from rfl)
    obtain ⟨v6, l6, m6⟩ := lookup_mem (hreq 16 (by decide))
    obtain ⟨A3, c3, rfl, hsl⟩ := hE.2.1 16 v6 m6 rfl
    have e124 := ((ht 124 (by decide)).trans (show _ = (.agg #[.string dg, .int .i64 id, .bool man, (us.lookup 16).getD undef]) from rfl)).trans (show _ = (.agg #[.string dg, .int .i64 id, .bool man, .slice A3 xs.length c3] : Value) by rw [l6]; rfl)
    have hob := HOB.out.all hE.1
    have hcl := set_Entry (w := w6) (x := (⟨dg, id, man, xs⟩ : Entry)) hob.th hi his hn6 (Nat.le_trans hob.lo (Nat.le_of_lt hob.box)) (⟨_, _, _, rfl, hok, hsl.mono (fun q hq hlt => ⟨⟨(by have := HOB.out.box; omega), fun e => by have := (HOB.out.st.lt q e.symm).2; omega, fun e => by have := (HOB.out.th.lt q e.symm).2; omega, fun e => by have := (HOB.out.ta.lt q e.symm).2; omega⟩, fun e => by have := (HOB.out.th.lt q e.symm).2; omega⟩)⟩)
    refine step_call rfl 42 #[.tmp 111, .tmp 112, .tmp 113, .tmp 124] #[25, 3, 4, 71] rfl Try.func42 (by kernel_rfl) (by kernel_rfl) #[.slice A1 n1 c1, .int .i64 (i : Int), .bool is, .agg #[.string dg, .int .i64 id, .bool man, .slice A3 xs.length c3]] (by simp [e111, e112, e113, e124]; try first | done | rfl | exact ⟨rfl, rfl⟩) (hcl) ?_
    rintro e w7 ⟨A', n', c', rfl, hown, hchg, hat⟩
    exact ⟨_, rfl, hK _ _ (hW.call hni ⟨A', n', c', rfl, hown, hchg, hat⟩)⟩
  · (refine OpH.rd rfl rfl (fun ρ us w6 ho ht hc hl hsrc hW => ?_); have e107 := (ht 107 (by decide)).trans (show _ = (.pointer (some ⟨bb, 0, none⟩) : Value) from rfl); clear ht ho; simp only [execOp, e107]; go_simp; try rfl)
  · (refine OpH.rd rfl rfl (fun ρ us w6 ho ht hc hl hsrc hW => ?_); have e126 := (ht 126 (by decide)).trans (show _ = (.pointer (some ⟨bb, 0, none⟩) : Value) from rfl); clear ht ho; simp only [execOp, e126]; go_simp; try rfl)
  · refine OpH.wr rfl (fun Z us w6 ho ht hni hlim hreq hW K hK => ?_)
    obtain ⟨us0, W0, v0, rfl, hb0, ⟨A', n', c', rfl, hown, hchg, hat⟩, _, _⟩ := hW.half (hreq 18 (by decide)) hni
    have hob := HOB.out.all hb0
    have hrow := (hchg.agree bb (fun e => hob.ap.b1 e.symm) hob.box).trans hob.row
    have f0 := (cell_of_row w6 _ 1 _ _ _ hrow).trans (show _ = some (Value.slice A1 n1 c1) from rfl)
    have f4 := frozen_of_row w6 _ 1 _ _ hrow
    have e127 := (ht 127 (by decide)).trans (show _ = (.pointer (some ⟨bb, 1, none⟩) : Value) from rfl)
    have e125 := ((ht 125 (by decide)).trans (show _ = ((us0 ++ [(18, Value.slice A' n' c')]).lookup 18).getD undef from rfl)).trans (show _ = (.slice A' n' c' : Value) by rw [lookup_snoc_new (by assumption)]; rfl)
    have hdone : WdC w (fun i v W => i = 16 → ∃ A c, v = .slice A xs.length c ∧ Sl true 3 intE W (fun q => w.heap.size ≤ q) A xs.length c xs) 18 (RS 71 (entryE true) β (NS bb A0 A1 A2) A1 (setL i is (⟨dg, id, man, xs⟩ : Entry) b.things)) 21 (stF bb 1) (us0 ++ [(18, Value.slice A' n' c')] ++ [(21, undef)]) (stF bb 1 (Value.slice A' n' c') w6) := .fin hb0 ⟨A', n', c', rfl, hown, hchg, hat⟩ (by assumption) (by assumption)
    have HDN := Lib.hid hdone; clear hdone hW hni hlim hreq ho ht hrow hob hown hchg hat hb0
    rw [if_pos (by simp [Region.wanted])]
    unfold Oper.wp
    generalize Z.eval = ρ at *
    simp only [execOp, e127, e125]
    go_simp
    exact hK undef _ HDN.out
  -- TSAF
  · intro us w9 hmem hW
    have hkr := (hW.kept (Array.getElem?_eq_some_iff.1 RR.out).1 hg0 hgb).trans RR.out
    obtain ⟨us0, W0, W1, v0, x0, rfl, hb0, ⟨A', n', c', rfl, hown, hchg, hat⟩, rfl⟩ := hW.last (hmem 21 (by decide)) (by decide)
    have hp := (HOB.out.all hb0).put1 hchg hown hat
    exact hend _ _ A' n' c' hp.1 hkr ((hb0.mono (Nat.le_trans HOB.out.lo (Nat.le_of_lt HOB.out.box))).trans hp.2)
noncomputable def doReg20 : Code := ((Try.f20.body.bind (seekRegion 20)).getD .skip)
set_option maxRecDepth 100000 in
set_option maxHeartbeats 8000000 in
theorem do20 {Q : Exit → Act → World → Prop} {σ : Act} {w : World} {X : Nat → Option Obj} {β bb gr : Nat} {A0 A1 A2 A4 A5 : Option Addr} {n0 c0 n1 c1 n2 c2 n4 c4 n5 c5 : Nat} {b : Book} {i : Nat} {is : Bool} {kd id : Int} {nm dg : ByteArray} (hok : StrOk nm ∧ StrOk dg) (HOB : Hid (OB X β bb A0 n0 c0 A1 n1 c1 A2 n2 c2 b w)) (RR : Hid (w.heap[gr]? = some (.cells #[.int .i64 kd, .int .i64 id, .string nm, .string dg, .slice A4 n4 c4, .slice A5 n5 c5] 54 (0, 0)))) (hgb : gr ≠ bb) (hg0 : some gr ≠ ablk A2) (hi : i ≤ n2) (his : is = true → i < n2) (hn6 : n2 ≤ 999999)  (hσ : σ.tmps.size = 190) (s0 : σ.eval (.tmp 0) = .pointer (some ⟨bb, 0, none⟩)) (s3 : σ.eval (.tmp 3) = .pointer (some ⟨gr, 0, none⟩)) (s13 : σ.eval (.tmp 13) = .int .i64 (i : Int)) (s14 : σ.eval (.tmp 14) = .bool is)
    (hend : ∀ (v : Nat → Value) (wz : World) (A' : Option Addr) (n' c' : Nat), OB X β bb A0 n0 c0 A1 n1 c1 A' n' c' { b with tags := setL i is (⟨nm, dg⟩ : Tag) b.tags } wz → wz.heap[gr]? = some (.cells #[.int .i64 kd, .int .i64 id, .string nm, .string dg, .slice A4 n4 c4, .slice A5 n5 c5] 54 (0, 0)) → Below β w wz → Q .normal (putAll σ (([157, 158, 159, 160, 161, 162, 163, 164, 165, 166, 167, 168, 169, 170, 171] : List Nat).map fun d => (d, v d))) wz) :
    doReg20.wp Try.prog Q σ w := by
  conv => arg 2; whnf
  refine region_free (by kernel_rfl) (by kernel_rfl) 190 hσ [157, 158, 159, 160, 161, 162, 163, 164, 165, 166, 167, 168, 169, 170, 171] [12, 15] [(169, 12)]
    [(157, [], fun _ => .pointer (some ⟨bb, 0, none⟩)), (158, [], fun _ => .pointer (some ⟨bb, 0, none⟩)), (159, [], fun _ => .pointer (some ⟨bb, 0, none⟩)), (160, [], fun _ => .pointer (some ⟨bb, 2, none⟩)), (161, [], fun _ => .slice A2 n2 c2), (162, [], fun _ => .int .i64 (i : Int)), (163, [], fun _ => .bool is), (164, [], fun _ => .pointer (some ⟨gr, 2, none⟩)), (165, [], fun _ => .string nm), (166, [], fun _ => .pointer (some ⟨gr, 3, none⟩)), (167, [], fun _ => .string dg), (168, [], fun _ => .agg #[.string nm, .string dg]), (170, [], fun _ => .pointer (some ⟨bb, 0, none⟩)), (171, [], fun _ => .pointer (some ⟨bb, 2, none⟩))]
    [[], [], [], [], [12], [], [], [], [], [], [], [12]] [[], [], [], [], [], [], [], [], [], [], [], [], [], [], [], [12]] [[], [], [158], [159], [160], [], [], [], [164], [], [166], [165, 167], [161, 162, 163, 168], [157], [170], [171, 169]]
    (WdC w (fun _ _ _ => True) 12 (RS 73 tagE β (NS bb A0 A1 A2) A2 (setL i is (⟨nm, dg⟩ : Tag) b.tags)) 15 (stF bb 2)) (by kernel_rfl) .init ⟨?_, ?_, ?_, ?_, ?_, ?_, ?_, ?_, ?_, ?_, ?_, ?_, ?_, ?_, ?_, ?_, trivial⟩ ?_
  -- FAST16 cdot
  · (refine OpH.rd rfl rfl (fun ρ us w6 ho ht hc hl hsrc hW => ?_); have e0 := (ho 0 rfl).trans (show _ = (.pointer (some ⟨bb, 0, none⟩) : Value) from s0); clear ht ho; simp only [execOp, e0]; go_simp; try rfl)
  · (refine OpH.rd rfl rfl (fun ρ us w6 ho ht hc hl hsrc hW => ?_); have e0 := (ho 0 rfl).trans (show _ = (.pointer (some ⟨bb, 0, none⟩) : Value) from s0); clear ht ho; simp only [execOp, e0]; go_simp; try rfl)
  · (refine OpH.rd rfl rfl (fun ρ us w6 ho ht hc hl hsrc hW => ?_); have e158 := (ht 158 (by decide)).trans (show _ = (.pointer (some ⟨bb, 0, none⟩) : Value) from rfl); clear ht ho; simp only [execOp, e158]; go_simp; try rfl)
  · (refine OpH.rd rfl rfl (fun ρ us w6 ho ht hc hl hsrc hW => ?_); have e159 := (ht 159 (by decide)).trans (show _ = (.pointer (some ⟨bb, 0, none⟩) : Value) from rfl); clear ht ho; simp only [execOp, e159]; go_simp; try rfl)
  · (refine OpH.rd rfl rfl (fun ρ us w6 ho ht hc hl hsrc hW => ?_); have e160 := (ht 160 (by decide)).trans (show _ = (.pointer (some ⟨bb, 2, none⟩) : Value) from rfl); have r7 := (HOB.out.all (hW.early (hl 12 (by decide))).1).row; have y0 := cell_of_row _ _ 0 _ _ _ r7; have y1 := cell_of_row _ _ 1 _ _ _ r7; have y2 := cell_of_row _ _ 2 _ _ _ r7; have y3 := cell_of_row _ _ 3 _ _ _ r7; clear r7; clear ht ho; simp only [execOp, e160]; go_simp; try rfl)
  · (refine OpH.rd rfl rfl (fun ρ us w6 ho ht hc hl hsrc hW => ?_); have e13 := (ho 13 rfl).trans (show _ = (.int .i64 (i : Int) : Value) from s13); clear ht ho; simp only [execOp, e13]; go_simp; try rfl)
  · (refine OpH.rd rfl rfl (fun ρ us w6 ho ht hc hl hsrc hW => ?_); have e14 := (ho 14 rfl).trans (show _ = (.bool is : Value) from s14); clear ht ho; simp only [execOp, e14]; go_simp; try rfl)
  · (refine OpH.rd rfl rfl (fun ρ us w6 ho ht hc hl hsrc hW => ?_); have e3 := (ho 3 rfl).trans (show _ = (.pointer (some ⟨gr, 0, none⟩) : Value) from s3); clear ht ho; simp only [execOp, e3]; go_simp; try rfl)
  · (refine OpH.rd rfl rfl (fun ρ us w6 ho ht hc hl hsrc hW => ?_); have e164 := (ht 164 (by decide)).trans (show _ = (.pointer (some ⟨gr, 2, none⟩) : Value) from rfl); have r8 := (hW.kept (Array.getElem?_eq_some_iff.1 RR.out).1 hg0 hgb).trans RR.out; have z0 := cell_of_row _ _ 0 _ _ _ r8; have z1 := cell_of_row _ _ 1 _ _ _ r8; have z2 := cell_of_row _ _ 2 _ _ _ r8; have z3 := cell_of_row _ _ 3 _ _ _ r8; have z4 := cell_of_row _ _ 4 _ _ _ r8; have z5 := cell_of_row _ _ 5 _ _ _ r8; clear r8; clear ht ho; simp only [execOp, e164]; go_simp; try rfl)
  · (refine OpH.rd rfl rfl (fun ρ us w6 ho ht hc hl hsrc hW => ?_); have e3 := (ho 3 rfl).trans (show _ = (.pointer (some ⟨gr, 0, none⟩) : Value) from s3); clear ht ho; simp only [execOp, e3]; go_simp; try rfl)
  · (refine OpH.rd rfl rfl (fun ρ us w6 ho ht hc hl hsrc hW => ?_); have e166 := (ht 166 (by decide)).trans (show _ = (.pointer (some ⟨gr, 3, none⟩) : Value) from rfl); have r8 := (hW.kept (Array.getElem?_eq_some_iff.1 RR.out).1 hg0 hgb).trans RR.out; have z0 := cell_of_row _ _ 0 _ _ _ r8; have z1 := cell_of_row _ _ 1 _ _ _ r8; have z2 := cell_of_row _ _ 2 _ _ _ r8; have z3 := cell_of_row _ _ 3 _ _ _ r8; have z4 := cell_of_row _ _ 4 _ _ _ r8; have z5 := cell_of_row _ _ 5 _ _ _ r8; clear r8; clear ht ho; simp only [execOp, e166]; go_simp; try rfl)
  · (refine OpH.rd rfl rfl (fun ρ us w6 ho ht hc hl hsrc hW => ?_); have e165 := (ht 165 (by decide)).trans (show _ = (.string nm : Value) from rfl); have e167 := (ht 167 (by decide)).trans (show _ = (.string dg : Value) from rfl); clear ht ho; simp only [execOp]; go_simp; try rfl)
  · refine OpH.wr rfl (fun Z us w6 ho ht hni hlim hreq hW K hK => ?_)
    have hE := hW.early hni
    have e161 := (ht 161 (by decide)).trans (show _ = (.slice A2 n2 c2 : Value) from rfl)
    have e162 := (ht 162 (by decide)).trans (show _ = (.int .i64 (i : Int) : Value) from rfl)
    have e163 := (ht 163 (by decide)).trans (show _ = (.bool is : Value) from rfl)
    have e168 := (ht 168 (by decide)).trans (show _ = (.agg #[.string nm, .string dg] : Value) from rfl)
    have hob := HOB.out.all hE.1
    have hcl := set_Tag (w := w6) (x := (⟨nm, dg⟩ : Tag)) hob.ta hi his hn6 (Nat.le_trans hob.lo (Nat.le_of_lt hob.box)) (⟨rfl, hok⟩)
    refine step_call rfl 46 #[.tmp 161, .tmp 162, .tmp 163, .tmp 168] #[26, 3, 4, 73] rfl Try.func46 (by kernel_rfl) (by kernel_rfl) #[.slice A2 n2 c2, .int .i64 (i : Int), .bool is, .agg #[.string nm, .string dg]] (by simp [e161, e162, e163, e168]; try first | done | rfl | exact ⟨rfl, rfl⟩) (hcl) ?_
    rintro e w7 ⟨A', n', c', rfl, hown, hchg, hat⟩
    exact ⟨_, rfl, hK _ _ (hW.call hni ⟨A', n', c', rfl, hown, hchg, hat⟩)⟩
  · (refine OpH.rd rfl rfl (fun ρ us w6 ho ht hc hl hsrc hW => ?_); have e157 := (ht 157 (by decide)).trans (show _ = (.pointer (some ⟨bb, 0, none⟩) : Value) from rfl); clear ht ho; simp only [execOp, e157]; go_simp; try rfl)
  · (refine OpH.rd rfl rfl (fun ρ us w6 ho ht hc hl hsrc hW => ?_); have e170 := (ht 170 (by decide)).trans (show _ = (.pointer (some ⟨bb, 0, none⟩) : Value) from rfl); clear ht ho; simp only [execOp, e170]; go_simp; try rfl)
  · refine OpH.wr rfl (fun Z us w6 ho ht hni hlim hreq hW K hK => ?_)
    obtain ⟨us0, W0, v0, rfl, hb0, ⟨A', n', c', rfl, hown, hchg, hat⟩, _, _⟩ := hW.half (hreq 12 (by decide)) hni
    have hob := HOB.out.all hb0
    have hrow := (hchg.agree bb (fun e => hob.ap.b2 e.symm) hob.box).trans hob.row
    have f0 := (cell_of_row w6 _ 2 _ _ _ hrow).trans (show _ = some (Value.slice A2 n2 c2) from rfl)
    have f4 := frozen_of_row w6 _ 2 _ _ hrow
    have e171 := (ht 171 (by decide)).trans (show _ = (.pointer (some ⟨bb, 2, none⟩) : Value) from rfl)
    have e169 := ((ht 169 (by decide)).trans (show _ = ((us0 ++ [(12, Value.slice A' n' c')]).lookup 12).getD undef from rfl)).trans (show _ = (.slice A' n' c' : Value) by rw [lookup_snoc_new (by assumption)]; rfl)
    have hdone : WdC w (fun _ _ _ => True) 12 (RS 73 tagE β (NS bb A0 A1 A2) A2 (setL i is (⟨nm, dg⟩ : Tag) b.tags)) 15 (stF bb 2) (us0 ++ [(12, Value.slice A' n' c')] ++ [(15, undef)]) (stF bb 2 (Value.slice A' n' c') w6) := .fin hb0 ⟨A', n', c', rfl, hown, hchg, hat⟩ (by assumption) (by assumption)
    have HDN := Lib.hid hdone; clear hdone hW hni hlim hreq ho ht hrow hob hown hchg hat hb0
    rw [if_pos (by simp [Region.wanted])]
    unfold Oper.wp
    generalize Z.eval = ρ at *
    simp only [execOp, e171, e169]
    go_simp
    exact hK undef _ HDN.out
  -- TSAF
  · intro us w9 hmem hW
    have hkr := (hW.kept (Array.getElem?_eq_some_iff.1 RR.out).1 hg0 hgb).trans RR.out
    obtain ⟨us0, W0, W1, v0, x0, rfl, hb0, ⟨A', n', c', rfl, hown, hchg, hat⟩, rfl⟩ := hW.last (hmem 15 (by decide)) (by decide)
    have hp := (HOB.out.all hb0).put2 hchg hown hat
    exact hend _ _ A' n' c' hp.1 hkr ((hb0.mono (Nat.le_trans HOB.out.lo (Nat.le_of_lt HOB.out.box))).trans hp.2)
noncomputable def doReg3 : Code := ((Try.f20.body.bind (seekRegion 3)).getD .skip)
set_option maxRecDepth 100000 in
set_option maxHeartbeats 8000000 in
theorem do3 {Q : Exit → Act → World → Prop} {σ : Act} {w : World} {X : Nat → Option Obj} {β bb gr : Nat} {A0 A1 A2 A4 A5 : Option Addr} {n0 c0 n1 c1 n2 c2 n4 c4 n5 c5 : Nat} {b : Book} {kd id : Int} {nm dg : ByteArray} (HOB : Hid (OB X β bb A0 n0 c0 A1 n1 c1 A2 n2 c2 b w)) (RR : Hid (w.heap[gr]? = some (.cells #[.int .i64 kd, .int .i64 id, .string nm, .string dg, .slice A4 n4 c4, .slice A5 n5 c5] 54 (0, 0)))) (hid : I64 (id + 1)) (hmx : I64 (max b.next (id + 1)))  (hσ : σ.tmps.size = 190) (s0 : σ.eval (.tmp 0) = .pointer (some ⟨bb, 0, none⟩)) (s3 : σ.eval (.tmp 3) = .pointer (some ⟨gr, 0, none⟩))
    (hend : ∀ (v : Nat → Value) (wz : World), OB X β bb A0 n0 c0 A1 n1 c1 A2 n2 c2 { b with next := max b.next (id + 1) } wz → Below β w wz → Q .normal (putAll σ (([21, 22, 23, 24, 25, 26, 27, 28, 29, 30, 31] : List Nat).map fun d => (d, v d))) wz) :
    doReg3.wp Try.prog Q σ w := by
  conv => arg 2; whnf
  refine region_free (by kernel_rfl) (by kernel_rfl) 190 hσ [21, 22, 23, 24, 25, 26, 27, 28, 29, 30, 31] [11] []
    [(21, [], fun _ => .pointer (some ⟨bb, 0, none⟩)), (22, [], fun _ => .pointer (some ⟨bb, 0, none⟩)), (23, [], fun _ => .pointer (some ⟨bb, 0, none⟩)), (24, [], fun _ => .pointer (some ⟨bb, 3, none⟩)), (25, [], fun _ => .int .i64 b.next), (26, [], fun _ => .pointer (some ⟨gr, 1, none⟩)), (27, [], fun _ => .int .i64 id), (28, [], fun _ => .int .i64 (id + 1)), (29, [], fun _ => .int .i64 (max b.next (id + 1))), (30, [], fun _ => .pointer (some ⟨bb, 0, none⟩)), (31, [], fun _ => .pointer (some ⟨bb, 3, none⟩))]
    [[], [], [], [], [11], [], [11]] [] [[], [], [22], [23], [24], [], [26], [27], [25, 28], [21], [30], [31, 29]]
    (Wd1 w.drew 11 (w.drew.setCell ⟨bb, 3, none⟩ (.int .i64 (max b.next (id + 1))))) (by kernel_rfl) .pre ⟨?_, ?_, ?_, ?_, ?_, ?_, ?_, ?_, ?_, ?_, ?_, ?_, trivial⟩ ?_
  -- FAST12 cdot
  · (refine OpH.rd rfl rfl (fun ρ us w6 ho ht hc hl hsrc hW => ?_); have e0 := (ho 0 rfl).trans (show _ = (.pointer (some ⟨bb, 0, none⟩) : Value) from s0); clear ht ho; simp only [execOp, e0]; go_simp; try rfl)
  · (refine OpH.rd rfl rfl (fun ρ us w6 ho ht hc hl hsrc hW => ?_); have e0 := (ho 0 rfl).trans (show _ = (.pointer (some ⟨bb, 0, none⟩) : Value) from s0); clear ht ho; simp only [execOp, e0]; go_simp; try rfl)
  · (refine OpH.rd rfl rfl (fun ρ us w6 ho ht hc hl hsrc hW => ?_); have e22 := (ht 22 (by decide)).trans (show _ = (.pointer (some ⟨bb, 0, none⟩) : Value) from rfl); clear ht ho; simp only [execOp, e22]; go_simp; try rfl)
  · (refine OpH.rd rfl rfl (fun ρ us w6 ho ht hc hl hsrc hW => ?_); have e23 := (ht 23 (by decide)).trans (show _ = (.pointer (some ⟨bb, 0, none⟩) : Value) from rfl); clear ht ho; simp only [execOp, e23]; go_simp; try rfl)
  · (refine OpH.rd rfl rfl (fun ρ us w6 ho ht hc hl hsrc hW => ?_); have e24 := (ht 24 (by decide)).trans (show _ = (.pointer (some ⟨bb, 3, none⟩) : Value) from rfl); have hE := (hW.early (hl 11 (by decide))).2; subst hE; have r7 := (HOB.out.all (Below.refl w.heap.size w).drew).row; have y0 := cell_of_row _ _ 0 _ _ _ r7; have y1 := cell_of_row _ _ 1 _ _ _ r7; have y2 := cell_of_row _ _ 2 _ _ _ r7; have y3 := cell_of_row _ _ 3 _ _ _ r7; clear r7; clear ht ho; simp only [execOp, e24]; go_simp; try rfl)
  · (refine OpH.rd rfl rfl (fun ρ us w6 ho ht hc hl hsrc hW => ?_); have e3 := (ho 3 rfl).trans (show _ = (.pointer (some ⟨gr, 0, none⟩) : Value) from s3); clear ht ho; simp only [execOp, e3]; go_simp; try rfl)
  · (refine OpH.rd rfl rfl (fun ρ us w6 ho ht hc hl hsrc hW => ?_); have e26 := (ht 26 (by decide)).trans (show _ = (.pointer (some ⟨gr, 1, none⟩) : Value) from rfl); have hE := (hW.early (hl 11 (by decide))).2; subst hE; have r8 := ((Below.refl w.heap.size w).drew.block _ (Array.getElem?_eq_some_iff.1 RR.out).1).trans RR.out; have z0 := cell_of_row _ _ 0 _ _ _ r8; have z1 := cell_of_row _ _ 1 _ _ _ r8; have z2 := cell_of_row _ _ 2 _ _ _ r8; have z3 := cell_of_row _ _ 3 _ _ _ r8; have z4 := cell_of_row _ _ 4 _ _ _ r8; have z5 := cell_of_row _ _ 5 _ _ _ r8; clear r8; clear ht ho; simp only [execOp, e26]; go_simp; try rfl)
  · (refine OpH.rd rfl rfl (fun ρ us w6 ho ht hc hl hsrc hW => ?_); have e27 := (ht 27 (by decide)).trans (show _ = (.int .i64 id : Value) from rfl); clear ht ho; simp only [execOp, e27]; go_simp; rw [Go.IntWalk.i64_in _ (by unfold I64 at hid; omega)]; rfl)
  · (refine OpH.rd rfl rfl (fun ρ us w6 ho ht hc hl hsrc hW => ?_); have e25 := (ht 25 (by decide)).trans (show _ = (.int .i64 b.next : Value) from rfl); have e28 := (ht 28 (by decide)).trans (show _ = (.int .i64 (id + 1) : Value) from rfl); clear ht ho; simp only [execOp]; go_simp; first | rfl | (simp; done) | (congr 1; omega))
  · (refine OpH.rd rfl rfl (fun ρ us w6 ho ht hc hl hsrc hW => ?_); have e21 := (ht 21 (by decide)).trans (show _ = (.pointer (some ⟨bb, 0, none⟩) : Value) from rfl); clear ht ho; simp only [execOp, e21]; go_simp; try rfl)
  · (refine OpH.rd rfl rfl (fun ρ us w6 ho ht hc hl hsrc hW => ?_); have e30 := (ht 30 (by decide)).trans (show _ = (.pointer (some ⟨bb, 0, none⟩) : Value) from rfl); clear ht ho; simp only [execOp, e30]; go_simp; try rfl)
  · refine OpH.wr rfl (fun Z us w6 ho ht hni hlim hreq hW K hK => ?_)
    obtain ⟨rfl, rfl⟩ := hW.early hni
    have hrow := (HOB.out.all (Below.refl w.heap.size w).drew).row
    have f0 := (cell_of_row w.drew _ 3 _ _ _ hrow).trans (show _ = some (Value.int .i64 b.next) from rfl)
    have f4 := frozen_of_row w.drew _ 3 _ _ hrow
    have e31 := (ht 31 (by decide)).trans (show _ = (.pointer (some ⟨bb, 3, none⟩) : Value) from rfl)
    have e29 := (ht 29 (by decide)).trans (show _ = (.int .i64 (max b.next (id + 1)) : Value) from rfl)
    have hdone : Wd1 w.drew 11 (w.drew.setCell ⟨bb, 3, none⟩ (.int .i64 (max b.next (id + 1)))) ([] ++ [(11, undef)]) (w.drew.setCell ⟨bb, 3, none⟩ (.int .i64 (max b.next (id + 1)))) := .post
    have HDN := Lib.hid hdone; clear hdone hW hni hlim hreq ho ht hrow
    rw [if_pos (by simp [Region.wanted])]
    unfold Oper.wp
    generalize Z.eval = ρ at *
    simp only [execOp, e31, e29]
    go_simp
    exact hK undef _ HDN.out
  -- TSAF
  · intro us wz hmem hW
    have e := hW.done (hmem 11 (by decide))
    subst e
    have hp := (HOB.out.all (Below.refl w.heap.size w).drew).putN (x := max b.next (id + 1)) hmx
    exact hend _ _ hp.1 ((Below.refl β w).drew.trans hp.2)
noncomputable def doReg7 : Code := ((Try.f20.body.bind (seekRegion 7)).getD .skip)
set_option maxRecDepth 100000 in
set_option maxHeartbeats 8000000 in
theorem do7 {Q : Exit → Act → World → Prop} {σ : Act} {w : World} {X : Nat → Option Obj} {β bb gr : Nat} {A0 A1 A2 A4 A5 : Option Addr} {n0 c0 n1 c1 n2 c2 n4 c4 n5 c5 : Nat} {b : Book} {kd id : Int} {nm dg : ByteArray} (HOB : Hid (OB X β bb A0 n0 c0 A1 n1 c1 A2 n2 c2 b w)) (RR : Hid (w.heap[gr]? = some (.cells #[.int .i64 kd, .int .i64 id, .string nm, .string dg, .slice A4 n4 c4, .slice A5 n5 c5] 54 (0, 0)))) (hid : I64 (id + 1)) (hmx : I64 (max b.next (id + 1)))  (hσ : σ.tmps.size = 190) (s0 : σ.eval (.tmp 0) = .pointer (some ⟨bb, 0, none⟩)) (s3 : σ.eval (.tmp 3) = .pointer (some ⟨gr, 0, none⟩))
    (hend : ∀ (v : Nat → Value) (wz : World), OB X β bb A0 n0 c0 A1 n1 c1 A2 n2 c2 { b with next := max b.next (id + 1) } wz → Below β w wz → Q .normal (putAll σ (([67, 68, 69, 70, 71, 72, 73, 74, 75, 76, 77] : List Nat).map fun d => (d, v d))) wz) :
    doReg7.wp Try.prog Q σ w := by
  conv => arg 2; whnf
  refine region_free (by kernel_rfl) (by kernel_rfl) 190 hσ [67, 68, 69, 70, 71, 72, 73, 74, 75, 76, 77] [11] []
    [(67, [], fun _ => .pointer (some ⟨bb, 0, none⟩)), (68, [], fun _ => .pointer (some ⟨bb, 0, none⟩)), (69, [], fun _ => .pointer (some ⟨bb, 0, none⟩)), (70, [], fun _ => .pointer (some ⟨bb, 3, none⟩)), (71, [], fun _ => .int .i64 b.next), (72, [], fun _ => .pointer (some ⟨gr, 1, none⟩)), (73, [], fun _ => .int .i64 id), (74, [], fun _ => .int .i64 (id + 1)), (75, [], fun _ => .int .i64 (max b.next (id + 1))), (76, [], fun _ => .pointer (some ⟨bb, 0, none⟩)), (77, [], fun _ => .pointer (some ⟨bb, 3, none⟩))]
    [[], [], [], [], [11], [], [11]] [] [[], [], [68], [69], [70], [], [72], [73], [71, 74], [67], [76], [77, 75]]
    (Wd1 w.drew 11 (w.drew.setCell ⟨bb, 3, none⟩ (.int .i64 (max b.next (id + 1))))) (by kernel_rfl) .pre ⟨?_, ?_, ?_, ?_, ?_, ?_, ?_, ?_, ?_, ?_, ?_, ?_, trivial⟩ ?_
  -- FAST12 cdot
  · (refine OpH.rd rfl rfl (fun ρ us w6 ho ht hc hl hsrc hW => ?_); have e0 := (ho 0 rfl).trans (show _ = (.pointer (some ⟨bb, 0, none⟩) : Value) from s0); clear ht ho; simp only [execOp, e0]; go_simp; try rfl)
  · (refine OpH.rd rfl rfl (fun ρ us w6 ho ht hc hl hsrc hW => ?_); have e0 := (ho 0 rfl).trans (show _ = (.pointer (some ⟨bb, 0, none⟩) : Value) from s0); clear ht ho; simp only [execOp, e0]; go_simp; try rfl)
  · (refine OpH.rd rfl rfl (fun ρ us w6 ho ht hc hl hsrc hW => ?_); have e68 := (ht 68 (by decide)).trans (show _ = (.pointer (some ⟨bb, 0, none⟩) : Value) from rfl); clear ht ho; simp only [execOp, e68]; go_simp; try rfl)
  · (refine OpH.rd rfl rfl (fun ρ us w6 ho ht hc hl hsrc hW => ?_); have e69 := (ht 69 (by decide)).trans (show _ = (.pointer (some ⟨bb, 0, none⟩) : Value) from rfl); clear ht ho; simp only [execOp, e69]; go_simp; try rfl)
  · (refine OpH.rd rfl rfl (fun ρ us w6 ho ht hc hl hsrc hW => ?_); have e70 := (ht 70 (by decide)).trans (show _ = (.pointer (some ⟨bb, 3, none⟩) : Value) from rfl); have hE := (hW.early (hl 11 (by decide))).2; subst hE; have r7 := (HOB.out.all (Below.refl w.heap.size w).drew).row; have y0 := cell_of_row _ _ 0 _ _ _ r7; have y1 := cell_of_row _ _ 1 _ _ _ r7; have y2 := cell_of_row _ _ 2 _ _ _ r7; have y3 := cell_of_row _ _ 3 _ _ _ r7; clear r7; clear ht ho; simp only [execOp, e70]; go_simp; try rfl)
  · (refine OpH.rd rfl rfl (fun ρ us w6 ho ht hc hl hsrc hW => ?_); have e3 := (ho 3 rfl).trans (show _ = (.pointer (some ⟨gr, 0, none⟩) : Value) from s3); clear ht ho; simp only [execOp, e3]; go_simp; try rfl)
  · (refine OpH.rd rfl rfl (fun ρ us w6 ho ht hc hl hsrc hW => ?_); have e72 := (ht 72 (by decide)).trans (show _ = (.pointer (some ⟨gr, 1, none⟩) : Value) from rfl); have hE := (hW.early (hl 11 (by decide))).2; subst hE; have r8 := ((Below.refl w.heap.size w).drew.block _ (Array.getElem?_eq_some_iff.1 RR.out).1).trans RR.out; have z0 := cell_of_row _ _ 0 _ _ _ r8; have z1 := cell_of_row _ _ 1 _ _ _ r8; have z2 := cell_of_row _ _ 2 _ _ _ r8; have z3 := cell_of_row _ _ 3 _ _ _ r8; have z4 := cell_of_row _ _ 4 _ _ _ r8; have z5 := cell_of_row _ _ 5 _ _ _ r8; clear r8; clear ht ho; simp only [execOp, e72]; go_simp; try rfl)
  · (refine OpH.rd rfl rfl (fun ρ us w6 ho ht hc hl hsrc hW => ?_); have e73 := (ht 73 (by decide)).trans (show _ = (.int .i64 id : Value) from rfl); clear ht ho; simp only [execOp, e73]; go_simp; rw [Go.IntWalk.i64_in _ (by unfold I64 at hid; omega)]; rfl)
  · (refine OpH.rd rfl rfl (fun ρ us w6 ho ht hc hl hsrc hW => ?_); have e71 := (ht 71 (by decide)).trans (show _ = (.int .i64 b.next : Value) from rfl); have e74 := (ht 74 (by decide)).trans (show _ = (.int .i64 (id + 1) : Value) from rfl); clear ht ho; simp only [execOp]; go_simp; first | rfl | (simp; done) | (congr 1; omega))
  · (refine OpH.rd rfl rfl (fun ρ us w6 ho ht hc hl hsrc hW => ?_); have e67 := (ht 67 (by decide)).trans (show _ = (.pointer (some ⟨bb, 0, none⟩) : Value) from rfl); clear ht ho; simp only [execOp, e67]; go_simp; try rfl)
  · (refine OpH.rd rfl rfl (fun ρ us w6 ho ht hc hl hsrc hW => ?_); have e76 := (ht 76 (by decide)).trans (show _ = (.pointer (some ⟨bb, 0, none⟩) : Value) from rfl); clear ht ho; simp only [execOp, e76]; go_simp; try rfl)
  · refine OpH.wr rfl (fun Z us w6 ho ht hni hlim hreq hW K hK => ?_)
    obtain ⟨rfl, rfl⟩ := hW.early hni
    have hrow := (HOB.out.all (Below.refl w.heap.size w).drew).row
    have f0 := (cell_of_row w.drew _ 3 _ _ _ hrow).trans (show _ = some (Value.int .i64 b.next) from rfl)
    have f4 := frozen_of_row w.drew _ 3 _ _ hrow
    have e77 := (ht 77 (by decide)).trans (show _ = (.pointer (some ⟨bb, 3, none⟩) : Value) from rfl)
    have e75 := (ht 75 (by decide)).trans (show _ = (.int .i64 (max b.next (id + 1)) : Value) from rfl)
    have hdone : Wd1 w.drew 11 (w.drew.setCell ⟨bb, 3, none⟩ (.int .i64 (max b.next (id + 1)))) ([] ++ [(11, undef)]) (w.drew.setCell ⟨bb, 3, none⟩ (.int .i64 (max b.next (id + 1)))) := .post
    have HDN := Lib.hid hdone; clear hdone hW hni hlim hreq ho ht hrow
    rw [if_pos (by simp [Region.wanted])]
    unfold Oper.wp
    generalize Z.eval = ρ at *
    simp only [execOp, e77, e75]
    go_simp
    exact hK undef _ HDN.out
  -- TSAF
  · intro us wz hmem hW
    have e := hW.done (hmem 11 (by decide))
    subst e
    have hp := (HOB.out.all (Below.refl w.heap.size w).drew).putN (x := max b.next (id + 1)) hmx
    exact hend _ _ hp.1 ((Below.refl β w).drew.trans hp.2)
end Go.Proofs.Ytipecejghioicaa
