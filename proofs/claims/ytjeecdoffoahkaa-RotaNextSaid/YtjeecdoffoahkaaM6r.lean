/- The drawn regions of silolaw17.RotaNext, each over a frame of letters. Printed by gen_m6.py. -/
import Derived.Test.YtjeecdoffoahkaaN10r
import Derived.Test.YtjeecdoffoahkaaQ12r
import Derived.Test.YtjeecdoffoahkaaN7r
import Derived.Test.YtjeecdoffoahkaaN2r
namespace Go.Silo
open Go Go.RowKit
theorem WdS.ever {V W : World} {R : Nat → Value → World → Prop} {s1 : Nat} {st1 : List (Nat × Value) → World → World} {us : List (Nat × Value)} (h : WdS V R s1 st1 us W) {i : Nat} (hi : i ∈ us.map Prod.fst) (h1 : i ≠ s1) : ∃ v W0, us.lookup i = some v ∧ R i v W0 := by
  cases h with
  | pre _ hR _ => obtain ⟨v, a, b⟩ := lookup_mem hi; exact ⟨v, _, a, hR i v b⟩
  | @one us0 W0 x _ hR _ => obtain ⟨v, a, b⟩ := lookup_mem (before_mid hi h1); exact ⟨v, _, by rw [lookup_mid h1]; exact a, hR i v b⟩
/-- A store of a part of step iv's tuple into step ib's box. -/
def stTB (ib iv k : Nat) (us : List (Nat × Value)) (W : World) : World := setAll (blkOf ((us.lookup ib).getD undef)) 0 (partsOf (tupAt k ((us.lookup iv).getD undef))) W
/-- A store of step iv's structure into block g. -/
def stP (g iv : Nat) (us : List (Nat × Value)) (W : World) : World := setAll g 0 (partsOf ((us.lookup iv).getD undef)) W
end Go.Silo
namespace Go.Proofs.Ytjeecdoffoahkaa
open Go.RowKit Go.Silo
/-- What the region gives that asks for the next piece. -/
def RNx (x : Cursor) (er : Int) (V : World) (i : Nat) (v : Value) (W : World) : Prop :=
  (i = 6 → v = .tuple #[.agg #[.int .i64 x.stripe, .int .i64 x.index], .int .i64 er]) ∧
  (i = 10 → ∃ g, v = .pointer (some ⟨g, 0, none⟩) ∧ V.heap.size ≤ g ∧ W.heap[g]? = some (.cells #[.int .i64 0, .int .i64 0] 44 (0, 0)))
theorem RNx.all {x : Cursor} {er : Int} {V W W' : World} (hb : Below W.heap.size W W') (j : Nat) (v : Value) (h : RNx x er V j v W) : RNx x er V j v W' :=
  ⟨h.1, fun hj => by obtain ⟨g, a, b, c⟩ := h.2 hj; exact ⟨g, a, b, (hb.block _ (Array.getElem?_eq_some_iff.1 c).1).trans c⟩⟩
noncomputable def nextReg16 : Code := ((Try.f3.body.bind (seekRegion 16)).getD .skip)
set_option maxRecDepth 100000 in
set_option maxHeartbeats 8000000 in
theorem next16 {Q : Exit → Act → World → Prop} {σ : Act} {w : World} {g5 g12 b9 o9 i N c9 : Nat} {A0 A1 A2 : Option Addr} {n0 c0 n1 c1 n2 c2 : Nat} {s : Shape} {nx : Int} {c x : Cursor} {er : Int} (R5 : Hid (w.heap[g5]? = some (.cells #[.int .i64 s.K, .int .i64 s.M, .int .i64 s.size] 23 (0, 0)))) (R12 : Hid (w.heap[g12]? = some (.cells #[.slice A0 n0 c0, .slice A1 n1 c1, .slice A2 n2 c2, .int .i64 nx] 28 (0, 0)))) (hi : i < N) (HCU : Hid (∀ V, Below w.heap.size w V → V.cell? ⟨b9, o9 + i * 2, none⟩ = some (.int .i64 c.stripe) ∧ V.cell? ⟨b9, o9 + i * 2 + 1, none⟩ = some (.int .i64 c.index))) (HNX : Hid (∀ V, Below w.heap.size w V → Calls Try.prog 15 #[.agg #[.int .i64 s.K, .int .i64 s.M, .int .i64 s.size], .agg #[.slice A0 n0 c0, .slice A1 n1 c1, .slice A2 n2 c2, .int .i64 nx], .agg #[.int .i64 c.stripe, .int .i64 c.index]] V (RetV (.tuple #[.agg #[.int .i64 x.stripe, .int .i64 x.index], .int .i64 er]) V)))  (hσ : σ.tmps.size = 203) (s3 : σ.eval (.tmp 3) = .pointer (some ⟨g5, 0, none⟩)) (s12 : σ.eval (.tmp 12) = .pointer (some ⟨g12, 0, none⟩)) (s10 : σ.eval (.tmp 10) = .slice (some ⟨b9, o9, none⟩) N c9) (s11 : σ.eval (.tmp 11) = .int .i64 (i : Int))
    (hend : ∀ (v : Nat → Value) (wz : World) (g : Nat), v 13 = .pointer (some ⟨g, 0, none⟩) → v 14 = .int .i64 er → w.heap.size ≤ g → wz.heap[g]? = some (.cells #[.int .i64 x.stripe, .int .i64 x.index] 44 (0, 0)) → Below w.heap.size w wz → Q .normal (putAll σ (([84, 85, 86, 87, 88, 89, 90, 83, 91, 92, 13, 14] : List Nat).map fun d => (d, v d))) wz) :
    nextReg16.wp Try.prog Q σ w := by
  conv => arg 2; whnf
  refine region_free (by kernel_rfl) (by kernel_rfl) 203 hσ [84, 85, 86, 87, 88, 89, 90, 83, 91, 92, 13, 14] [6, 10, 11] [(90, 6), (13, 10)]
    [(84, [], fun _ => .agg #[.int .i64 s.K, .int .i64 s.M, .int .i64 s.size]), (85, [], fun _ => .agg #[.slice A0 n0 c0, .slice A1 n1 c1, .slice A2 n2 c2, .int .i64 nx]), (86, [], fun _ => .slice (some ⟨b9, o9, none⟩) N c9), (87, [], fun _ => .int .i64 (i : Int)), (88, [], fun _ => .pointer (some ⟨b9, o9 + i * 2, none⟩)), (89, [], fun _ => .agg #[.int .i64 c.stripe, .int .i64 c.index]), (83, [6], fun l => l.getD 0 undef), (91, [6], fun l => tupAt 0 (l.getD 0 undef)), (92, [6], fun l => tupAt 1 (l.getD 0 undef)), (14, [6], fun l => tupAt 1 (l.getD 0 undef))]
    [[11], [11], [11], [11], [11], [11], [11], [11], [11], [], [11]] [[], [], [], [], [], [], [], [], [], [], [], [6, 10]] [[], [], [], [], [86, 87], [88], [84, 85, 89], [90], [83], [83], [], [13, 91], [92]]
    (WdS w (RNx x er w) 11 (stTB 10 6 0)) (by kernel_rfl) .init ⟨?_, ?_, ?_, ?_, ?_, ?_, ?_, ?_, ?_, ?_, ?_, ?_, ?_, trivial⟩ ?_
  -- FAST13 cdot
  · (refine OpH.rd rfl rfl (fun ρ us w6 ho ht hc hl hsrc hW => ?_); have e3 := (ho 3 rfl).trans (show _ = (.pointer (some ⟨g5, 0, none⟩) : Value) from s3); have r7 := ((hW.early (hl 11 (by decide))).1.block _ (Array.getElem?_eq_some_iff.1 R5.out).1).trans R5.out; have y0 := cell_of_row _ _ 0 _ _ _ r7; have y1 := cell_of_row _ _ 1 _ _ _ r7; have y2 := cell_of_row _ _ 2 _ _ _ r7; clear r7; clear ht ho; simp only [execOp, e3]; go_simp; try rfl)
  · (refine OpH.rd rfl rfl (fun ρ us w6 ho ht hc hl hsrc hW => ?_); have e12 := (ho 12 rfl).trans (show _ = (.pointer (some ⟨g12, 0, none⟩) : Value) from s12); have r7 := ((hW.early (hl 11 (by decide))).1.block _ (Array.getElem?_eq_some_iff.1 R12.out).1).trans R12.out; have y0 := cell_of_row _ _ 0 _ _ _ r7; have y1 := cell_of_row _ _ 1 _ _ _ r7; have y2 := cell_of_row _ _ 2 _ _ _ r7; have y3 := cell_of_row _ _ 3 _ _ _ r7; clear r7; clear ht ho; simp only [execOp, e12]; go_simp; try rfl)
  · (refine OpH.rd rfl rfl (fun ρ us w6 ho ht hc hl hsrc hW => ?_); have e10 := (ho 10 rfl).trans (show _ = (.slice (some ⟨b9, o9, none⟩) N c9 : Value) from s10); clear ht ho; simp only [execOp, e10]; go_simp; try rfl)
  · (refine OpH.rd rfl rfl (fun ρ us w6 ho ht hc hl hsrc hW => ?_); have e11 := (ho 11 rfl).trans (show _ = (.int .i64 (i : Int) : Value) from s11); clear ht ho; simp only [execOp, e11]; go_simp; try rfl)
  · (refine OpH.rd rfl rfl (fun ρ us w6 ho ht hc hl hsrc hW => ?_); have e86 := (ht 86 (by decide)).trans (show _ = (.slice (some ⟨b9, o9, none⟩) N c9 : Value) from rfl); have e87 := (ht 87 (by decide)).trans (show _ = (.int .i64 (i : Int) : Value) from rfl); clear ht ho; simp only [execOp, e86, e87]; go_simp; try rfl)
  · (refine OpH.rd rfl rfl (fun ρ us w6 ho ht hc hl hsrc hW => ?_); have e88 := (ht 88 (by decide)).trans (show _ = (.pointer (some ⟨b9, o9 + i * 2, none⟩) : Value) from rfl); obtain ⟨y0, y1⟩ := HCU.out w6 (hW.early (hl 11 (by decide))).1; clear ht ho; simp only [execOp, e88]; go_simp; try rfl)
  · refine OpH.wr rfl (fun Z us w6 ho ht hni hlim hreq hW K hK => ?_)
    have e84 := (ht 84 (by decide)).trans (show _ = (.agg #[.int .i64 s.K, .int .i64 s.M, .int .i64 s.size] : Value) from rfl)
    have e85 := (ht 85 (by decide)).trans (show _ = (.agg #[.slice A0 n0 c0, .slice A1 n1 c1, .slice A2 n2 c2, .int .i64 nx] : Value) from rfl)
    have e89 := (ht 89 (by decide)).trans (show _ = (.agg #[.int .i64 c.stripe, .int .i64 c.index] : Value) from rfl)
    have hn := hlim 11 (by decide)
    have hb6 := (hW.early hn).1
    have hcl := HNX.out w6 hb6
    refine step_call rfl 15 #[.tmp 84, .tmp 85, .tmp 89] #[23, 28, 44] rfl Try.func15 (by kernel_rfl) (by kernel_rfl) #[.agg #[.int .i64 s.K, .int .i64 s.M, .int .i64 s.size], .agg #[.slice A0 n0 c0, .slice A1 n1 c1, .slice A2 n2 c2, .int .i64 nx], .agg #[.int .i64 c.stripe, .int .i64 c.index]] (by simp [e84, e85, e89]; try first | done | rfl | exact ⟨rfl, rfl⟩) (hcl) ?_
    rintro e w7 ⟨rfl, hb7⟩
    exact ⟨_, rfl, hK _ _ (hW.snoc (by decide) hn hb7 (fun j v h => RNx.all hb7 j v h) ⟨fun _ => rfl, fun h => absurd h (by decide)⟩)⟩
  · (refine OpH.rd rfl rfl (fun ρ us w6 ho ht hc hl hsrc hW => ?_); have e90 := (ht 90 (by decide)).trans (show _ = ((us.lookup 6).getD undef : Value) from rfl); clear ht ho; simp only [execOp, e90]; go_simp; try rfl)
  · refine OpH.rd rfl rfl (fun ρ us w6 ho ht hc hl hsrc hW => ?_)
    obtain ⟨v6, W7, l6, r6⟩ := hW.ever (hsrc 6 (by exact (List.mem_singleton.2 rfl : (6 : Nat) ∈ [6]))) (by decide)
    have ev6 := r6.1 rfl
    subst ev6
    have e83 := ((ht 83 (by decide)).trans (show _ = (us.lookup 6).getD undef from rfl)).trans (show _ = (.tuple #[.agg #[.int .i64 x.stripe, .int .i64 x.index], .int .i64 er] : Value) by rw [l6]; rfl)
    change _ = Result.ok (Next.value (tupAt 0 ((us.lookup 6).getD undef))) w6
    rw [l6]
    clear ht ho hl hsrc hW l6 r6
    simp only [execOp, e83]
    go_simp
    rfl
  · refine OpH.rd rfl rfl (fun ρ us w6 ho ht hc hl hsrc hW => ?_)
    obtain ⟨v6, W7, l6, r6⟩ := hW.ever (hsrc 6 (by exact (List.mem_singleton.2 rfl : (6 : Nat) ∈ [6]))) (by decide)
    have ev6 := r6.1 rfl
    subst ev6
    have e83 := ((ht 83 (by decide)).trans (show _ = (us.lookup 6).getD undef from rfl)).trans (show _ = (.tuple #[.agg #[.int .i64 x.stripe, .int .i64 x.index], .int .i64 er] : Value) by rw [l6]; rfl)
    change _ = Result.ok (Next.value (tupAt 1 ((us.lookup 6).getD undef))) w6
    rw [l6]
    clear ht ho hl hsrc hW l6 r6
    simp only [execOp, e83]
    go_simp
    rfl
  · refine OpH.wr rfl (fun Z us w6 ho ht hni hlim hreq hW K hK => ?_)
    have hn := hlim 11 (by decide)
    have hdone := hW.snoc (i := 10) (x := .pointer (some ⟨w6.heap.size, 0, none⟩)) (by decide) hn ((Below.refl _ _).alloc (Nat.le_refl _) (.cells #[.int .i64 0, .int .i64 0] 44)) (fun j v h => RNx.all ((Below.refl _ _).alloc (Nat.le_refl _) _) j v h) ⟨fun h => absurd h (by decide), fun _ => ⟨_, rfl, (hW.early hn).1.size, heap_alloc_new _ _⟩⟩
    have HDN := Lib.hid hdone; clear hdone hW hni hlim hreq ho ht hn
    rw [if_pos (by simp [Region.wanted])]
    unfold Oper.wp
    generalize Z.eval = ρ at *
    simp only [execOp]
    go_simp
    exact hK _ _ HDN.out
  · refine OpH.wr rfl (fun Z us w6 ho ht hni hlim hreq hW K hK => ?_)
    have hE := hW.early hni
    obtain ⟨v6, l6, m6⟩ := lookup_mem (hreq 6 (by decide))
    obtain ⟨v10, l10, m10⟩ := lookup_mem (hreq 10 (by decide))
    have ev6 := (hE.2 6 v6 m6).1 rfl
    subst ev6
    obtain ⟨g, rfl, hg, hr⟩ := (hE.2 10 v10 m10).2 rfl
    have e13 := ((ht 13 (by decide)).trans (show _ = (us.lookup 10).getD undef from rfl)).trans (show _ = (.pointer (some ⟨g, 0, none⟩) : Value) by rw [l10]; rfl)
    have e91 := ((ht 91 (by decide)).trans (show _ = tupAt 0 ((us.lookup 6).getD undef) from rfl)).trans (show _ = (.agg #[.int .i64 x.stripe, .int .i64 x.index] : Value) by rw [l6]; rfl)
    have hst : stTB 10 6 0 us w6 = setAll g 0 [.int .i64 x.stripe, .int .i64 x.index] w6 := by unfold stTB; rw [l10, l6]; rfl
    have hdone := hW.store hni (x := undef)
    rw [hst] at hdone
    have f0 := (cell_of_row w6 _ 0 _ _ _ hr).trans (show _ = some (Value.int .i64 0) from rfl)
    have f1 := (cell_of_row w6 _ 1 _ _ _ hr).trans (show _ = some (Value.int .i64 0) from rfl)
    have f4 := frozen_of_row w6 _ 0 _ _ hr
    have f5 := frozen_of_row w6 _ 1 _ _ hr
    have HDN := Lib.hid hdone; clear hdone hW hni hlim hreq ho ht hst hr l6 l10 m6 m10 hE
    rw [if_pos (by simp [Region.wanted])]
    unfold Oper.wp
    generalize Z.eval = ρ at *
    simp only [execOp, e13, e91]
    go_simp
    exact hK undef _ HDN.out
  · (refine OpH.rd rfl rfl (fun ρ us w6 ho ht hc hl hsrc hW => ?_); have e92 := (ht 92 (by decide)).trans (show _ = (tupAt 1 ((us.lookup 6).getD undef) : Value) from rfl); clear ht ho; simp only [execOp, e92]; go_simp; try rfl)
  -- TSAF
  · intro us w9 hmem hW
    obtain ⟨us0, W6, x0, rfl, rfl, hb, hR, hn1⟩ := hW.last (hmem 11 (by decide))
    obtain ⟨v6, l6, m6⟩ := lookup_mem (before_mid (hmem 6 (by decide)) (by decide))
    obtain ⟨v10, l10, m10⟩ := lookup_mem (before_mid (hmem 10 (by decide)) (by decide))
    have ev6 := (hR 6 v6 m6).1 rfl
    subst ev6
    obtain ⟨g, rfl, hg, hr⟩ := (hR 10 v10 m10).2 rfl
    have hst : stTB 10 6 0 us0 W6 = setAll g 0 [.int .i64 x.stripe, .int .i64 x.index] W6 := by unfold stTB; rw [l10, l6]; rfl
    rw [hst]
    refine hend _ _ g ?_ ?_ hg (setAll_2 hr) (setAll_below hg _ _ _ hb)
    · show ((us0 ++ [(11, x0)]).lookup 10).getD undef = _; rw [lookup_mid (by decide), l10]; rfl
    · show tupAt 1 (((us0 ++ [(11, x0)]).lookup 6).getD undef) = _; rw [lookup_mid (by decide), l6]; rfl
noncomputable def nextReg18 : Code := ((Try.f3.body.bind (seekRegion 18)).getD .skip)
set_option maxRecDepth 100000 in
set_option maxHeartbeats 8000000 in
theorem next18t {Q : Exit → Act → World → Prop} {σ : Act} {w : World} {g5 b9 o9 i N c9 : Nat} {s : Shape} {c : Cursor} {ck : Bool} (R5 : Hid (w.heap[g5]? = some (.cells #[.int .i64 s.K, .int .i64 s.M, .int .i64 s.size] 23 (0, 0)))) (hi : i < N) (HCU : Hid (∀ V, Below w.heap.size w V → V.cell? ⟨b9, o9 + i * 2, none⟩ = some (.int .i64 c.stripe) ∧ V.cell? ⟨b9, o9 + i * 2 + 1, none⟩ = some (.int .i64 c.index))) (HCK : Hid (∀ V, Below w.heap.size w V → Calls Try.prog 16 #[.agg #[.int .i64 s.K, .int .i64 s.M, .int .i64 s.size], .agg #[.int .i64 c.stripe, .int .i64 c.index]] V (RetV (.bool ck) V)))  (hσ : σ.tmps.size = 203) (s5 : σ.eval (.tmp 5) = .bool true) (s3 : σ.eval (.tmp 3) = .pointer (some ⟨g5, 0, none⟩)) (s10 : σ.eval (.tmp 10) = .slice (some ⟨b9, o9, none⟩) N c9) (s11 : σ.eval (.tmp 11) = .int .i64 (i : Int))
    (hend : ∀ (v : Nat → Value) (wz : World), v 17 = .bool ck → Below w.heap.size w wz → Q .normal (putAll σ (([94, 95, 96, 97, 98, 99, 100, 101, 102, 17] : List Nat).map fun d => (d, v d))) wz) :
    nextReg18.wp Try.prog Q σ w := by
  conv => arg 2; whnf
  refine region_free (by kernel_rfl) (by kernel_rfl) 203 hσ [94, 95, 96, 97, 98, 99, 100, 101, 102, 17] [7] [(101, 7)]
    [(94, [], fun _ => .bool true), (95, [], fun _ => .bool true), (96, [], fun _ => .agg #[.int .i64 s.K, .int .i64 s.M, .int .i64 s.size]), (97, [], fun _ => .slice (some ⟨b9, o9, none⟩) N c9), (98, [], fun _ => .int .i64 (i : Int)), (99, [], fun _ => .pointer (some ⟨b9, o9 + i * 2, none⟩)), (100, [], fun _ => .agg #[.int .i64 c.stripe, .int .i64 c.index]), (102, [7], fun l => l.getD 0 undef), (17, [7], fun l => l.getD 0 undef)]
    [] [] [[], [94], [95], [95], [95], [97, 98, 95], [99, 95], [96, 100, 95], [95, 101], [102]]
    (WdB w (fun i v _ => i = 7 → v = .bool ck)) (by kernel_rfl) .init ⟨?_, ?_, ?_, ?_, ?_, ?_, ?_, ?_, ?_, ?_, trivial⟩ ?_
  -- FAST10 cdot
  · (refine OpH.rd rfl rfl (fun ρ us w6 ho ht hc hl hsrc hW => ?_); have e5 := (ho 5 rfl).trans (show _ = (.bool true : Value) from s5); clear ht ho; simp only [execOp, e5]; go_simp; try rfl)
  · (refine OpH.rd rfl rfl (fun ρ us w6 ho ht hc hl hsrc hW => ?_); have e94 := (ht 94 (by decide)).trans (show _ = (.bool true : Value) from rfl); clear ht ho; simp only [execOp, e94]; go_simp; try rfl)
  · (refine OpH.rdg rfl 1 95 true rfl rfl (by decide) (fun _ _ _ => rfl) (fun ρ us w6 ho ht hc hl hsrc hW => ?_); have e3 := (ho 3 rfl).trans (show _ = (.pointer (some ⟨g5, 0, none⟩) : Value) from s3); have r7 := (hW.1.block _ (Array.getElem?_eq_some_iff.1 R5.out).1).trans R5.out; have y0 := cell_of_row _ _ 0 _ _ _ r7; have y1 := cell_of_row _ _ 1 _ _ _ r7; have y2 := cell_of_row _ _ 2 _ _ _ r7; clear r7; clear ht ho; simp only [execOp, e3]; go_simp; try rfl)
  · (refine OpH.rdg rfl 1 95 true rfl rfl (by decide) (fun _ _ _ => rfl) (fun ρ us w6 ho ht hc hl hsrc hW => ?_); have e10 := (ho 10 rfl).trans (show _ = (.slice (some ⟨b9, o9, none⟩) N c9 : Value) from s10); clear ht ho; simp only [execOp, e10]; go_simp; try rfl)
  · (refine OpH.rdg rfl 1 95 true rfl rfl (by decide) (fun _ _ _ => rfl) (fun ρ us w6 ho ht hc hl hsrc hW => ?_); have e11 := (ho 11 rfl).trans (show _ = (.int .i64 (i : Int) : Value) from s11); clear ht ho; simp only [execOp, e11]; go_simp; try rfl)
  · (refine OpH.rdg rfl 1 95 true rfl rfl (by decide) (fun _ _ _ => rfl) (fun ρ us w6 ho ht hc hl hsrc hW => ?_); have e97 := (ht 97 (by decide)).trans (show _ = (.slice (some ⟨b9, o9, none⟩) N c9 : Value) from rfl); have e98 := (ht 98 (by decide)).trans (show _ = (.int .i64 (i : Int) : Value) from rfl); clear ht ho; simp only [execOp, e97, e98]; go_simp; try rfl)
  · (refine OpH.rdg rfl 1 95 true rfl rfl (by decide) (fun _ _ _ => rfl) (fun ρ us w6 ho ht hc hl hsrc hW => ?_); have e99 := (ht 99 (by decide)).trans (show _ = (.pointer (some ⟨b9, o9 + i * 2, none⟩) : Value) from rfl); obtain ⟨y0, y1⟩ := HCU.out w6 hW.1; clear ht ho; simp only [execOp, e99]; go_simp; try rfl)
  · refine OpH.wr rfl (fun Z us w6 ho ht hni hlim hreq hW K hK => ?_)
    have e96 := (ht 96 (by decide)).trans (show _ = (.agg #[.int .i64 s.K, .int .i64 s.M, .int .i64 s.size] : Value) from rfl)
    have e100 := (ht 100 (by decide)).trans (show _ = (.agg #[.int .i64 c.stripe, .int .i64 c.index] : Value) from rfl)
    have hb6 := hW.1
    have hcl := HCK.out w6 hb6
    have eg := (ht 95 (by decide)).trans (show _ = (.bool true : Value) from rfl)
    refine step_callw (GuardOk.wanted (.at_ (j := 1) (t := 95) (b := true) rfl rfl eg)) 16 #[.tmp 96, .tmp 100] #[23, 44] rfl Try.func16 (by kernel_rfl) (by kernel_rfl) #[.agg #[.int .i64 s.K, .int .i64 s.M, .int .i64 s.size], .agg #[.int .i64 c.stripe, .int .i64 c.index]] (by simp [e96, e100]; first | done | rfl | exact ⟨rfl, rfl⟩) hcl ?_
    rintro e w7 ⟨rfl, hb7⟩
    exact ⟨_, rfl, hK _ _ (hW.snoc hb7 (fun j v h => h) (fun _ => rfl))⟩
  · (refine OpH.rd rfl rfl (fun ρ us w6 ho ht hc hl hsrc hW => ?_); have e95 := (ht 95 (by decide)).trans (show _ = (.bool true : Value) from rfl); have e101 := (ht 101 (by decide)).trans (show _ = ((us.lookup 7).getD undef : Value) from rfl); clear ht ho; simp only [execOp, e95, e101]; go_simp; try rfl)
  · (refine OpH.rd rfl rfl (fun ρ us w6 ho ht hc hl hsrc hW => ?_); have e102 := (ht 102 (by decide)).trans (show _ = ((us.lookup 7).getD undef : Value) from rfl); clear ht ho; simp only [execOp, e102]; go_simp; try rfl)
  -- TSAF
  · intro us wz hmem hW
    refine hend _ wz ?_ hW.1
    exact (hW.at_ (hmem 7 (by decide))) rfl
set_option maxRecDepth 100000 in
set_option maxHeartbeats 8000000 in
theorem next18f {Q : Exit → Act → World → Prop} {σ : Act} {w : World} (hσ : σ.tmps.size = 203) (s5 : σ.eval (.tmp 5) = .bool false)
    (hend : ∀ (v : Nat → Value) (wz : World), v 17 = .bool false → Below w.heap.size w wz → Q .normal (putAll σ (([94, 95, 96, 97, 98, 99, 100, 101, 102, 17] : List Nat).map fun d => (d, v d))) wz) :
    nextReg18.wp Try.prog Q σ w := by
  conv => arg 2; whnf
  refine region_free (by kernel_rfl) (by kernel_rfl) 203 hσ [94, 95, 96, 97, 98, 99, 100, 101, 102, 17] [] []
    [(94, [], fun _ => .bool false), (95, [], fun _ => .bool false), (96, [], fun _ => undef), (97, [], fun _ => undef), (98, [], fun _ => undef), (99, [], fun _ => undef), (100, [], fun _ => undef), (101, [], fun _ => undef), (102, [], fun _ => .bool false), (17, [], fun _ => .bool false)]
    [] [] [[], [94], [95], [95], [95], [97, 98, 95], [99, 95], [96, 100, 95], [95, 101], [102]]
    (WdB w (fun _ _ _ => True)) (by kernel_rfl) .init ⟨?_, ?_, ?_, ?_, ?_, ?_, ?_, ?_, ?_, ?_, trivial⟩ ?_
  -- FAST10 cdot
  · (refine OpH.rd rfl rfl (fun ρ us w6 ho ht hc hl hsrc hW => ?_); have e5 := (ho 5 rfl).trans (show _ = (.bool false : Value) from s5); clear ht ho; simp only [execOp, e5]; go_simp; try rfl)
  · (refine OpH.rd rfl rfl (fun ρ us w6 ho ht hc hl hsrc hW => ?_); have e94 := (ht 94 (by decide)).trans (show _ = (.bool false : Value) from rfl); clear ht ho; simp only [execOp, e94]; go_simp; try rfl)
  · (exact OpH.rdn rfl 1 95 true rfl rfl (by decide) (fun _ _ _ => rfl) (fun _ => rfl))
  · (exact OpH.rdn rfl 1 95 true rfl rfl (by decide) (fun _ _ _ => rfl) (fun _ => rfl))
  · (exact OpH.rdn rfl 1 95 true rfl rfl (by decide) (fun _ _ _ => rfl) (fun _ => rfl))
  · (exact OpH.rdn rfl 1 95 true rfl rfl (by decide) (fun _ _ _ => rfl) (fun _ => rfl))
  · (exact OpH.rdn rfl 1 95 true rfl rfl (by decide) (fun _ _ _ => rfl) (fun _ => rfl))
  · (exact OpH.rdn rfl 1 95 true rfl rfl (by decide) (fun _ _ _ => rfl) (fun _ => rfl))
  · (refine OpH.rd rfl rfl (fun ρ us w6 ho ht hc hl hsrc hW => ?_); have e95 := (ht 95 (by decide)).trans (show _ = (.bool false : Value) from rfl); have e101 := (ht 101 (by decide)).trans (show _ = (undef : Value) from rfl); clear ht ho; simp only [execOp, e95, e101]; go_simp; try rfl)
  · (refine OpH.rd rfl rfl (fun ρ us w6 ho ht hc hl hsrc hW => ?_); have e102 := (ht 102 (by decide)).trans (show _ = (.bool false : Value) from rfl); clear ht ho; simp only [execOp, e102]; go_simp; try rfl)
  -- TSAF
  · intro us wz hmem hW
    refine hend _ wz ?_ hW.1
    rfl
noncomputable def nextReg22 : Code := ((Try.f3.body.bind (seekRegion 22)).getD .skip)
set_option maxRecDepth 100000 in
set_option maxHeartbeats 8000000 in
theorem next22 {Q : Exit → Act → World → Prop} {σ : Act} {w : World} {g5 g6 g16 b9 o9 i N c9 : Nat} {A0 A1 A2 : Option Addr} {n0 c0 n1 c1 n2 c2 : Nat} {s : Shape} {nx : Int} {c x : Cursor} (R5 : Hid (w.heap[g5]? = some (.cells #[.int .i64 s.K, .int .i64 s.M, .int .i64 s.size] 23 (0, 0)))) (R6 : Hid (w.heap[g6]? = some (.cells #[.slice A0 n0 c0, .slice A1 n1 c1, .slice A2 n2 c2, .int .i64 nx] 28 (0, 0)))) (RZ : Hid (w.heap[g16]? = some (.cells #[.int .i64 0, .int .i64 0] 44 (0, 0)))) (hi : i < N) (HCU : Hid (∀ V, Below w.heap.size w V → V.cell? ⟨b9, o9 + i * 2, none⟩ = some (.int .i64 c.stripe) ∧ V.cell? ⟨b9, o9 + i * 2 + 1, none⟩ = some (.int .i64 c.index))) (HX : Hid (∀ V, Below w.heap.size w V → Calls Try.prog 17 #[.agg #[.int .i64 s.K, .int .i64 s.M, .int .i64 s.size], .agg #[.slice A0 n0 c0, .slice A1 n1 c1, .slice A2 n2 c2, .int .i64 nx], .agg #[.int .i64 c.stripe, .int .i64 c.index]] V (RetV (.agg #[.int .i64 x.stripe, .int .i64 x.index]) V)))  (hσ : σ.tmps.size = 203) (s3 : σ.eval (.tmp 3) = .pointer (some ⟨g5, 0, none⟩)) (s4 : σ.eval (.tmp 4) = .pointer (some ⟨g6, 0, none⟩)) (s10 : σ.eval (.tmp 10) = .slice (some ⟨b9, o9, none⟩) N c9) (s11 : σ.eval (.tmp 11) = .int .i64 (i : Int)) (s16 : σ.eval (.tmp 16) = .pointer (some ⟨g16, 0, none⟩))
    (hend : ∀ (v : Nat → Value) (wz : World), v 15 = .int .i64 0 → wz.heap[g16]? = some (.cells #[.int .i64 x.stripe, .int .i64 x.index] 44 (0, 0)) → Below g16 w wz → Q .normal (putAll σ (([108, 109, 110, 111, 112, 113, 114, 15] : List Nat).map fun d => (d, v d))) wz) :
    nextReg22.wp Try.prog Q σ w := by
  conv => arg 2; whnf
  refine region_free (by kernel_rfl) (by kernel_rfl) 203 hσ [108, 109, 110, 111, 112, 113, 114, 15] [6, 8] [(114, 6)]
    [(108, [], fun _ => .agg #[.int .i64 s.K, .int .i64 s.M, .int .i64 s.size]), (109, [], fun _ => .agg #[.slice A0 n0 c0, .slice A1 n1 c1, .slice A2 n2 c2, .int .i64 nx]), (110, [], fun _ => .slice (some ⟨b9, o9, none⟩) N c9), (111, [], fun _ => .int .i64 (i : Int)), (112, [], fun _ => .pointer (some ⟨b9, o9 + i * 2, none⟩)), (113, [], fun _ => .agg #[.int .i64 c.stripe, .int .i64 c.index]), (15, [], fun _ => .int .i64 0)]
    [[8], [8], [8], [8], [8], [8], [8]] [[], [], [], [], [], [], [], [], [6]] [[], [], [], [], [110, 111], [112], [108, 109, 113], [], [114]]
    (WdS w (fun i v _ => i = 6 → v = .agg #[.int .i64 x.stripe, .int .i64 x.index]) 8 (stP g16 6)) (by kernel_rfl) .init ⟨?_, ?_, ?_, ?_, ?_, ?_, ?_, ?_, ?_, trivial⟩ ?_
  -- FAST9 cdot
  · (refine OpH.rd rfl rfl (fun ρ us w6 ho ht hc hl hsrc hW => ?_); have e3 := (ho 3 rfl).trans (show _ = (.pointer (some ⟨g5, 0, none⟩) : Value) from s3); have r7 := ((hW.early (hl 8 (by decide))).1.block _ (Array.getElem?_eq_some_iff.1 R5.out).1).trans R5.out; have y0 := cell_of_row _ _ 0 _ _ _ r7; have y1 := cell_of_row _ _ 1 _ _ _ r7; have y2 := cell_of_row _ _ 2 _ _ _ r7; clear r7; clear ht ho; simp only [execOp, e3]; go_simp; try rfl)
  · (refine OpH.rd rfl rfl (fun ρ us w6 ho ht hc hl hsrc hW => ?_); have e4 := (ho 4 rfl).trans (show _ = (.pointer (some ⟨g6, 0, none⟩) : Value) from s4); have r7 := ((hW.early (hl 8 (by decide))).1.block _ (Array.getElem?_eq_some_iff.1 R6.out).1).trans R6.out; have y0 := cell_of_row _ _ 0 _ _ _ r7; have y1 := cell_of_row _ _ 1 _ _ _ r7; have y2 := cell_of_row _ _ 2 _ _ _ r7; have y3 := cell_of_row _ _ 3 _ _ _ r7; clear r7; clear ht ho; simp only [execOp, e4]; go_simp; try rfl)
  · (refine OpH.rd rfl rfl (fun ρ us w6 ho ht hc hl hsrc hW => ?_); have e10 := (ho 10 rfl).trans (show _ = (.slice (some ⟨b9, o9, none⟩) N c9 : Value) from s10); clear ht ho; simp only [execOp, e10]; go_simp; try rfl)
  · (refine OpH.rd rfl rfl (fun ρ us w6 ho ht hc hl hsrc hW => ?_); have e11 := (ho 11 rfl).trans (show _ = (.int .i64 (i : Int) : Value) from s11); clear ht ho; simp only [execOp, e11]; go_simp; try rfl)
  · (refine OpH.rd rfl rfl (fun ρ us w6 ho ht hc hl hsrc hW => ?_); have e110 := (ht 110 (by decide)).trans (show _ = (.slice (some ⟨b9, o9, none⟩) N c9 : Value) from rfl); have e111 := (ht 111 (by decide)).trans (show _ = (.int .i64 (i : Int) : Value) from rfl); clear ht ho; simp only [execOp, e110, e111]; go_simp; try rfl)
  · (refine OpH.rd rfl rfl (fun ρ us w6 ho ht hc hl hsrc hW => ?_); have e112 := (ht 112 (by decide)).trans (show _ = (.pointer (some ⟨b9, o9 + i * 2, none⟩) : Value) from rfl); obtain ⟨y0, y1⟩ := HCU.out w6 (hW.early (hl 8 (by decide))).1; clear ht ho; simp only [execOp, e112]; go_simp; try rfl)
  · refine OpH.wr rfl (fun Z us w6 ho ht hni hlim hreq hW K hK => ?_)
    have e108 := (ht 108 (by decide)).trans (show _ = (.agg #[.int .i64 s.K, .int .i64 s.M, .int .i64 s.size] : Value) from rfl)
    have e109 := (ht 109 (by decide)).trans (show _ = (.agg #[.slice A0 n0 c0, .slice A1 n1 c1, .slice A2 n2 c2, .int .i64 nx] : Value) from rfl)
    have e113 := (ht 113 (by decide)).trans (show _ = (.agg #[.int .i64 c.stripe, .int .i64 c.index] : Value) from rfl)
    have hn := hlim 8 (by decide)
    have hb6 := (hW.early hn).1
    have hcl := HX.out w6 hb6
    refine step_call rfl 17 #[.tmp 108, .tmp 109, .tmp 113] #[23, 28, 44] rfl Try.func17 (by kernel_rfl) (by kernel_rfl) #[.agg #[.int .i64 s.K, .int .i64 s.M, .int .i64 s.size], .agg #[.slice A0 n0 c0, .slice A1 n1 c1, .slice A2 n2 c2, .int .i64 nx], .agg #[.int .i64 c.stripe, .int .i64 c.index]] (by simp [e108, e109, e113]; try first | done | rfl | exact ⟨rfl, rfl⟩) (hcl) ?_
    rintro e w7 ⟨rfl, hb7⟩
    exact ⟨_, rfl, hK _ _ (hW.snoc (by decide) hn hb7 (fun j v h => h) (fun _ => rfl))⟩
  · (refine OpH.rd rfl rfl (fun ρ us w6 ho ht hc hl hsrc hW => ?_); clear ht ho; simp only [execOp]; go_simp; try rfl)
  · refine OpH.wr rfl (fun Z us w6 ho ht hni hlim hreq hW K hK => ?_)
    have hE := hW.early hni
    obtain ⟨v6, l6, m6⟩ := lookup_mem (hreq 6 (by decide))
    have ev6 := hE.2 6 v6 m6 rfl
    subst ev6
    have hr := (hE.1.block _ (Array.getElem?_eq_some_iff.1 RZ.out).1).trans RZ.out
    have e16 := (ho 16 rfl).trans (show _ = (.pointer (some ⟨g16, 0, none⟩) : Value) from s16)
    have e114 := ((ht 114 (by decide)).trans (show _ = (us.lookup 6).getD undef from rfl)).trans (show _ = (.agg #[.int .i64 x.stripe, .int .i64 x.index] : Value) by rw [l6]; rfl)
    have hst : stP g16 6 us w6 = setAll g16 0 [.int .i64 x.stripe, .int .i64 x.index] w6 := by unfold stP; rw [l6]; rfl
    have hdone := hW.store hni (x := undef)
    rw [hst] at hdone
    have f0 := (cell_of_row w6 _ 0 _ _ _ hr).trans (show _ = some (Value.int .i64 0) from rfl)
    have f1 := (cell_of_row w6 _ 1 _ _ _ hr).trans (show _ = some (Value.int .i64 0) from rfl)
    have f4 := frozen_of_row w6 _ 0 _ _ hr
    have f5 := frozen_of_row w6 _ 1 _ _ hr
    have HDN := Lib.hid hdone; clear hdone hW hni hlim hreq ho ht hst hr l6 m6 hE
    rw [if_pos (by simp [Region.wanted])]
    unfold Oper.wp
    generalize Z.eval = ρ at *
    simp only [execOp, e16, e114]
    go_simp
    exact hK undef _ HDN.out
  -- TSAF
  · intro us w9 hmem hW
    obtain ⟨us0, W6, x0, rfl, rfl, hb, hR, hn1⟩ := hW.last (hmem 8 (by decide))
    obtain ⟨v6, l6, m6⟩ := lookup_mem (before_mid (hmem 6 (by decide)) (by decide))
    have ev6 := hR 6 v6 m6 rfl
    subst ev6
    have hr := (hb.block _ (Array.getElem?_eq_some_iff.1 RZ.out).1).trans RZ.out
    have hst : stP g16 6 us0 W6 = setAll g16 0 [.int .i64 x.stripe, .int .i64 x.index] W6 := by unfold stP; rw [l6]; rfl
    rw [hst]
    exact hend _ _ rfl (setAll_2 hr) (setAll_below (Nat.le_refl _) _ _ _ (hb.mono (Nat.le_of_lt (Array.getElem?_eq_some_iff.1 RZ.out).1)))
/-- What the region gives that writes the numbers down. -/
def R25 (m : Int) (V : World) (i : Nat) (v : Value) (W : World) : Prop :=
  (i = 4 → ∃ y : Int, v = .int .i64 y ∧ (0 ≤ y ∧ y < 60)) ∧
  (i = 5 → ∃ (g : Nat) (y : Int), v = .slice (some ⟨g, 0, none⟩) 3 3 ∧ V.heap.size ≤ g ∧ (0 ≤ y ∧ y < 60) ∧ W.heap[g]? = some (.cells #[.int .i64 m, .int .i64 y, .int .i64 0] 3 (0, 0)))
theorem R25.all {m : Int} {V W W' : World} (hb : Below W.heap.size W W') (j : Nat) (v : Value) (h : R25 m V j v W) : R25 m V j v W' :=
  ⟨h.1, fun hj => by obtain ⟨g, y, a, b, d, c⟩ := h.2 hj; exact ⟨g, y, a, b, d, (hb.block _ (Array.getElem?_eq_some_iff.1 c).1).trans c⟩⟩
noncomputable def nextReg25 : Code := ((Try.f3.body.bind (seekRegion 25)).getD .skip)
set_option maxRecDepth 100000 in
set_option maxHeartbeats 8000000 in
theorem next25 {Q : Exit → Act → World → Prop} {σ : Act} {w : World} {gA : Nat} {m : Int} (HM : Hid (∀ V, Below w.heap.size w V → V.cell? ⟨gA, 11, none⟩ = some (.int .i64 m))) (HWI : Hid (∀ V, Below w.heap.size w V → Calls Try.prog 19 #[.int .i64 m, .int .i64 60] V (RetN (fun v => 0 ≤ v ∧ v < 60) V))) (hσ : σ.tmps.size = 203) (s1 : σ.eval (.tmp 1) = .pointer (some ⟨gA, 0, none⟩))
    (hend : ∀ (v : Nat → Value) (wz : World) (g : Nat) (y : Int), v 18 = .slice (some ⟨g, 0, none⟩) 3 3 → w.heap.size ≤ g → (0 ≤ y ∧ y < 60) → wz.heap[g]? = some (.cells #[.int .i64 m, .int .i64 y, .int .i64 0] 3 (0, 0)) → Below w.heap.size w wz → Q .normal (putAll σ (([130, 131, 132, 133, 134, 135, 18] : List Nat).map fun d => (d, v d))) wz) :
    nextReg25.wp Try.prog Q σ w := by
  conv => arg 2; whnf
  refine region_free (by kernel_rfl) (by kernel_rfl) 203 hσ [130, 131, 132, 133, 134, 135, 18] [4, 5] [(134, 4), (135, 5)]
    [(130, [], fun _ => .pointer (some ⟨gA, 11, none⟩)), (131, [], fun _ => .int .i64 m), (132, [], fun _ => .pointer (some ⟨gA, 11, none⟩)), (133, [], fun _ => .int .i64 m), (18, [5], fun l => l.getD 0 undef)]
    [] [[], [], [], [], [], [4]] [[], [130], [], [132], [133], [131, 134], [135]]
    (WdB w (R25 m w)) (by kernel_rfl) .init ⟨?_, ?_, ?_, ?_, ?_, ?_, ?_, trivial⟩ ?_
  -- FAST7 cdot
  · (refine OpH.rd rfl rfl (fun ρ us w6 ho ht hc hl hsrc hW => ?_); have e1 := (ho 1 rfl).trans (show _ = (.pointer (some ⟨gA, 0, none⟩) : Value) from s1); clear ht ho; simp only [execOp, e1]; go_simp; try rfl)
  · (refine OpH.rd rfl rfl (fun ρ us w6 ho ht hc hl hsrc hW => ?_); have e130 := (ht 130 (by decide)).trans (show _ = (.pointer (some ⟨gA, 11, none⟩) : Value) from rfl); have y0 := HM.out w6 hW.1; clear ht ho; simp only [execOp, e130]; go_simp; try rfl)
  · (refine OpH.rd rfl rfl (fun ρ us w6 ho ht hc hl hsrc hW => ?_); have e1 := (ho 1 rfl).trans (show _ = (.pointer (some ⟨gA, 0, none⟩) : Value) from s1); clear ht ho; simp only [execOp, e1]; go_simp; try rfl)
  · (refine OpH.rd rfl rfl (fun ρ us w6 ho ht hc hl hsrc hW => ?_); have e132 := (ht 132 (by decide)).trans (show _ = (.pointer (some ⟨gA, 11, none⟩) : Value) from rfl); have y0 := HM.out w6 hW.1; clear ht ho; simp only [execOp, e132]; go_simp; try rfl)
  · refine OpH.wr rfl (fun Z us w6 ho ht hni hlim hreq hW K hK => ?_)
    have e133 := (ht 133 (by decide)).trans (show _ = (.int .i64 m : Value) from rfl)
    have hb6 := hW.1
    have hcl := HWI.out w6 hb6
    have hcst : ∀ v, Z.eval (.const v) = v := fun _ => rfl
    refine step_call rfl 19 #[.tmp 133, .const (.int .i64 60)] #[3, 3] rfl Try.func19 (by kernel_rfl) (by kernel_rfl) #[.int .i64 m, .int .i64 60] (by simp [e133, hcst]; try first | done | rfl | exact ⟨rfl, rfl⟩) (hcl) ?_
    rintro e w7 ⟨y, rfl, hy, hb7⟩
    exact ⟨_, rfl, hK _ _ (hW.snoc hb7 (fun j v h => R25.all hb7 j v h) ⟨fun _ => ⟨y, rfl, hy⟩, fun h => absurd h (by decide)⟩)⟩
  · refine OpH.wr rfl (fun Z us w6 ho ht hni hlim hreq hW K hK => ?_)
    obtain ⟨v4, l4, m4⟩ := lookup_mem (hreq 4 (by decide))
    obtain ⟨y, rfl, hy⟩ := (hW.2 4 v4 m4).1 rfl
    have e131 := (ht 131 (by decide)).trans (show _ = (.int .i64 m : Value) from rfl)
    have e134 := ((ht 134 (by decide)).trans (show _ = (us.lookup 4).getD undef from rfl)).trans (show _ = (.int .i64 y : Value) by rw [l4]; rfl)
    have hcst : ∀ v, Z.eval (.const v) = v := fun _ => rfl
    have hdone := hW.snoc (i := 5) (x := .slice (some ⟨w6.heap.size, 0, none⟩) 3 3) ((Below.refl _ _).alloc (Nat.le_refl _) (.cells #[.int .i64 m, .int .i64 y, .int .i64 0] 3)) (fun j v h => R25.all ((Below.refl _ _).alloc (Nat.le_refl _) _) j v h) ⟨fun h => absurd h (by decide), fun _ => ⟨_, y, rfl, hW.1.size, hy, heap_alloc_new _ _⟩⟩
    have HDN := Lib.hid hdone; clear hdone hW hni hlim hreq ho ht l4 m4
    rw [if_pos (by simp [Region.wanted])]
    unfold Oper.wp
    generalize Z.eval = ρ at *
    simp only [execOp, List.map_toArray, List.map_cons, List.map_nil, e131, e134, hcst]
    go_simp
    exact hK _ _ HDN.out
  · (refine OpH.rd rfl rfl (fun ρ us w6 ho ht hc hl hsrc hW => ?_); have e135 := (ht 135 (by decide)).trans (show _ = ((us.lookup 5).getD undef : Value) from rfl); clear ht ho; simp only [execOp, e135]; go_simp; try rfl)
  -- TSAF
  · intro us wz hmem hW
    obtain ⟨g, y, e5, hg, hy, hr⟩ := (hW.at_ (hmem 5 (by decide))).2 rfl
    exact hend _ wz g y e5 hg hy hr hW.1
/-- What the region gives that asks for many pieces. -/
def R29 (xs : List Cursor) (er : Int) (i : Nat) (v : Value) (W : World) : Prop :=
  i = 10 → ∃ A q, v = .tuple #[.slice A xs.length q, .int .i64 er] ∧ Sl true 44 cursorE W (fun _ => True) A xs.length q xs
theorem R29.all {xs : List Cursor} {er : Int} {W W' : World} (hb : Below W.heap.size W W') (j : Nat) (v : Value) (h : R29 xs er j v W) : R29 xs er j v W' :=
  fun hj => by obtain ⟨A, q, a, b⟩ := h hj; exact ⟨A, q, a, b.all hb⟩
noncomputable def nextReg29 : Code := ((Try.f3.body.bind (seekRegion 29)).getD .skip)
set_option maxRecDepth 100000 in
set_option maxHeartbeats 8000000 in
theorem next29 {Q : Exit → Act → World → Prop} {σ : Act} {w : World} {g5 g12 b8 b9 o9 i k N c9 : Nat} {A0 A1 A2 : Option Addr} {n0 c0 n1 c1 n2 c2 : Nat} {s : Shape} {nx nk : Int} {c : Cursor} {xs : List Cursor} {er : Int} (R5 : Hid (w.heap[g5]? = some (.cells #[.int .i64 s.K, .int .i64 s.M, .int .i64 s.size] 23 (0, 0)))) (R12 : Hid (w.heap[g12]? = some (.cells #[.slice A0 n0 c0, .slice A1 n1 c1, .slice A2 n2 c2, .int .i64 nx] 28 (0, 0)))) (hi : i < N) (HCU : Hid (∀ V, Below w.heap.size w V → V.cell? ⟨b9, o9 + i * 2, none⟩ = some (.int .i64 c.stripe) ∧ V.cell? ⟨b9, o9 + i * 2 + 1, none⟩ = some (.int .i64 c.index))) (hk : k < 3) (HK8 : Hid (∀ V, Below w.heap.size w V → V.cell? ⟨b8, k, none⟩ = some (.int .i64 nk))) (HFA : Hid (∀ V, Below w.heap.size w V → Calls Try.prog 20 #[.agg #[.int .i64 s.K, .int .i64 s.M, .int .i64 s.size], .agg #[.slice A0 n0 c0, .slice A1 n1 c1, .slice A2 n2 c2, .int .i64 nx], .agg #[.int .i64 c.stripe, .int .i64 c.index], .int .i64 nk] V (RetFair xs er V)))  (hσ : σ.tmps.size = 203) (s3 : σ.eval (.tmp 3) = .pointer (some ⟨g5, 0, none⟩)) (s12 : σ.eval (.tmp 12) = .pointer (some ⟨g12, 0, none⟩)) (s10 : σ.eval (.tmp 10) = .slice (some ⟨b9, o9, none⟩) N c9) (s11 : σ.eval (.tmp 11) = .int .i64 (i : Int)) (s18 : σ.eval (.tmp 18) = .slice (some ⟨b8, 0, none⟩) 3 3) (s19 : σ.eval (.tmp 19) = .int .i64 (k : Int))
    (hend : ∀ (v : Nat → Value) (wz : World) (A : Option Addr) (q : Nat), v 20 = .slice A xs.length q → v 21 = .int .i64 er → Sl true 44 cursorE wz (fun _ => True) A xs.length q xs → Below w.heap.size w wz → Q .normal (putAll σ (([143, 144, 145, 146, 147, 148, 149, 150, 151, 152, 153, 142, 154, 155, 20, 21] : List Nat).map fun d => (d, v d))) wz) :
    nextReg29.wp Try.prog Q σ w := by
  conv => arg 2; whnf
  refine region_free (by kernel_rfl) (by kernel_rfl) 203 hσ [143, 144, 145, 146, 147, 148, 149, 150, 151, 152, 153, 142, 154, 155, 20, 21] [10] [(153, 10)]
    [(143, [], fun _ => .agg #[.int .i64 s.K, .int .i64 s.M, .int .i64 s.size]), (144, [], fun _ => .agg #[.slice A0 n0 c0, .slice A1 n1 c1, .slice A2 n2 c2, .int .i64 nx]), (145, [], fun _ => .slice (some ⟨b9, o9, none⟩) N c9), (146, [], fun _ => .int .i64 (i : Int)), (147, [], fun _ => .pointer (some ⟨b9, o9 + i * 2, none⟩)), (148, [], fun _ => .agg #[.int .i64 c.stripe, .int .i64 c.index]), (149, [], fun _ => .slice (some ⟨b8, 0, none⟩) 3 3), (150, [], fun _ => .int .i64 (k : Int)), (151, [], fun _ => .pointer (some ⟨b8, k, none⟩)), (152, [], fun _ => .int .i64 nk), (142, [10], fun l => l.getD 0 undef), (154, [10], fun l => tupAt 0 (l.getD 0 undef)), (155, [10], fun l => tupAt 1 (l.getD 0 undef)), (20, [10], fun l => tupAt 0 (l.getD 0 undef)), (21, [10], fun l => tupAt 1 (l.getD 0 undef))]
    [] [] [[], [], [], [], [145, 146], [147], [], [], [149, 150], [151], [143, 144, 148, 152], [153], [142], [142], [154], [155]]
    (WdB w (R29 xs er)) (by kernel_rfl) .init ⟨?_, ?_, ?_, ?_, ?_, ?_, ?_, ?_, ?_, ?_, ?_, ?_, ?_, ?_, ?_, ?_, trivial⟩ ?_
  -- FAST16 cdot
  · (refine OpH.rd rfl rfl (fun ρ us w6 ho ht hc hl hsrc hW => ?_); have e3 := (ho 3 rfl).trans (show _ = (.pointer (some ⟨g5, 0, none⟩) : Value) from s3); have r7 := (hW.1.block _ (Array.getElem?_eq_some_iff.1 R5.out).1).trans R5.out; have y0 := cell_of_row _ _ 0 _ _ _ r7; have y1 := cell_of_row _ _ 1 _ _ _ r7; have y2 := cell_of_row _ _ 2 _ _ _ r7; clear r7; clear ht ho; simp only [execOp, e3]; go_simp; try rfl)
  · (refine OpH.rd rfl rfl (fun ρ us w6 ho ht hc hl hsrc hW => ?_); have e12 := (ho 12 rfl).trans (show _ = (.pointer (some ⟨g12, 0, none⟩) : Value) from s12); have r7 := (hW.1.block _ (Array.getElem?_eq_some_iff.1 R12.out).1).trans R12.out; have y0 := cell_of_row _ _ 0 _ _ _ r7; have y1 := cell_of_row _ _ 1 _ _ _ r7; have y2 := cell_of_row _ _ 2 _ _ _ r7; have y3 := cell_of_row _ _ 3 _ _ _ r7; clear r7; clear ht ho; simp only [execOp, e12]; go_simp; try rfl)
  · (refine OpH.rd rfl rfl (fun ρ us w6 ho ht hc hl hsrc hW => ?_); have e10 := (ho 10 rfl).trans (show _ = (.slice (some ⟨b9, o9, none⟩) N c9 : Value) from s10); clear ht ho; simp only [execOp, e10]; go_simp; try rfl)
  · (refine OpH.rd rfl rfl (fun ρ us w6 ho ht hc hl hsrc hW => ?_); have e11 := (ho 11 rfl).trans (show _ = (.int .i64 (i : Int) : Value) from s11); clear ht ho; simp only [execOp, e11]; go_simp; try rfl)
  · (refine OpH.rd rfl rfl (fun ρ us w6 ho ht hc hl hsrc hW => ?_); have e145 := (ht 145 (by decide)).trans (show _ = (.slice (some ⟨b9, o9, none⟩) N c9 : Value) from rfl); have e146 := (ht 146 (by decide)).trans (show _ = (.int .i64 (i : Int) : Value) from rfl); clear ht ho; simp only [execOp, e145, e146]; go_simp; try rfl)
  · (refine OpH.rd rfl rfl (fun ρ us w6 ho ht hc hl hsrc hW => ?_); have e147 := (ht 147 (by decide)).trans (show _ = (.pointer (some ⟨b9, o9 + i * 2, none⟩) : Value) from rfl); obtain ⟨y0, y1⟩ := HCU.out w6 hW.1; clear ht ho; simp only [execOp, e147]; go_simp; try rfl)
  · (refine OpH.rd rfl rfl (fun ρ us w6 ho ht hc hl hsrc hW => ?_); have e18 := (ho 18 rfl).trans (show _ = (.slice (some ⟨b8, 0, none⟩) 3 3 : Value) from s18); clear ht ho; simp only [execOp, e18]; go_simp; try rfl)
  · (refine OpH.rd rfl rfl (fun ρ us w6 ho ht hc hl hsrc hW => ?_); have e19 := (ho 19 rfl).trans (show _ = (.int .i64 (k : Int) : Value) from s19); clear ht ho; simp only [execOp, e19]; go_simp; try rfl)
  · (refine OpH.rd rfl rfl (fun ρ us w6 ho ht hc hl hsrc hW => ?_); have e149 := (ht 149 (by decide)).trans (show _ = (.slice (some ⟨b8, 0, none⟩) 3 3 : Value) from rfl); have e150 := (ht 150 (by decide)).trans (show _ = (.int .i64 (k : Int) : Value) from rfl); have hk3 : (k : Int) < 3 := (by omega); clear ht ho; simp only [execOp, e149, e150]; go_simp; try rfl)
  · (refine OpH.rd rfl rfl (fun ρ us w6 ho ht hc hl hsrc hW => ?_); have e151 := (ht 151 (by decide)).trans (show _ = (.pointer (some ⟨b8, k, none⟩) : Value) from rfl); have y0 := HK8.out w6 hW.1; clear ht ho; simp only [execOp, e151]; go_simp; try rfl)
  · refine OpH.wr rfl (fun Z us w6 ho ht hni hlim hreq hW K hK => ?_)
    have e143 := (ht 143 (by decide)).trans (show _ = (.agg #[.int .i64 s.K, .int .i64 s.M, .int .i64 s.size] : Value) from rfl)
    have e144 := (ht 144 (by decide)).trans (show _ = (.agg #[.slice A0 n0 c0, .slice A1 n1 c1, .slice A2 n2 c2, .int .i64 nx] : Value) from rfl)
    have e148 := (ht 148 (by decide)).trans (show _ = (.agg #[.int .i64 c.stripe, .int .i64 c.index] : Value) from rfl)
    have e152 := (ht 152 (by decide)).trans (show _ = (.int .i64 nk : Value) from rfl)
    have hb6 := hW.1
    have hcl := HFA.out w6 hb6
    refine step_call rfl 20 #[.tmp 143, .tmp 144, .tmp 148, .tmp 152] #[23, 28, 44, 3] rfl Try.func20 (by kernel_rfl) (by kernel_rfl) #[.agg #[.int .i64 s.K, .int .i64 s.M, .int .i64 s.size], .agg #[.slice A0 n0 c0, .slice A1 n1 c1, .slice A2 n2 c2, .int .i64 nx], .agg #[.int .i64 c.stripe, .int .i64 c.index], .int .i64 nk] (by simp [e143, e144, e148, e152]; try first | done | rfl | exact ⟨rfl, rfl⟩) (hcl) ?_
    rintro e w7 ⟨A, q, rfl, hsl, hb7⟩
    exact ⟨_, rfl, hK _ _ (hW.snoc hb7 (fun j v h => R29.all hb7 j v h) (fun _ => ⟨A, q, rfl, hsl.mono (fun _ _ _ => trivial)⟩))⟩
  · (refine OpH.rd rfl rfl (fun ρ us w6 ho ht hc hl hsrc hW => ?_); have e153 := (ht 153 (by decide)).trans (show _ = ((us.lookup 10).getD undef : Value) from rfl); clear ht ho; simp only [execOp, e153]; go_simp; try rfl)
  · refine OpH.rd rfl rfl (fun ρ us w6 ho ht hc hl hsrc hW => ?_)
    obtain ⟨v6, l6, m6⟩ := lookup_mem (hsrc 10 (by exact (List.mem_singleton.2 rfl : (10 : Nat) ∈ [10])))
    obtain ⟨A, q, rfl, _⟩ := hW.2 10 v6 m6 rfl
    have e142 := ((ht 142 (by decide)).trans (show _ = (us.lookup 10).getD undef from rfl)).trans (show _ = (.tuple #[.slice A xs.length q, .int .i64 er] : Value) by rw [l6]; rfl)
    change _ = Result.ok (Next.value (tupAt 0 ((us.lookup 10).getD undef))) w6
    rw [l6]
    clear ht ho hl hsrc hW l6 m6
    simp only [execOp, e142]
    go_simp
    rfl
  · refine OpH.rd rfl rfl (fun ρ us w6 ho ht hc hl hsrc hW => ?_)
    obtain ⟨v6, l6, m6⟩ := lookup_mem (hsrc 10 (by exact (List.mem_singleton.2 rfl : (10 : Nat) ∈ [10])))
    obtain ⟨A, q, rfl, _⟩ := hW.2 10 v6 m6 rfl
    have e142 := ((ht 142 (by decide)).trans (show _ = (us.lookup 10).getD undef from rfl)).trans (show _ = (.tuple #[.slice A xs.length q, .int .i64 er] : Value) by rw [l6]; rfl)
    change _ = Result.ok (Next.value (tupAt 1 ((us.lookup 10).getD undef))) w6
    rw [l6]
    clear ht ho hl hsrc hW l6 m6
    simp only [execOp, e142]
    go_simp
    rfl
  · (refine OpH.rd rfl rfl (fun ρ us w6 ho ht hc hl hsrc hW => ?_); have e154 := (ht 154 (by decide)).trans (show _ = (tupAt 0 ((us.lookup 10).getD undef) : Value) from rfl); clear ht ho; simp only [execOp, e154]; go_simp; try rfl)
  · (refine OpH.rd rfl rfl (fun ρ us w6 ho ht hc hl hsrc hW => ?_); have e155 := (ht 155 (by decide)).trans (show _ = (tupAt 1 ((us.lookup 10).getD undef) : Value) from rfl); clear ht ho; simp only [execOp, e155]; go_simp; try rfl)
  -- TSAF
  · intro us wz hmem hW
    obtain ⟨v6, l6, m6⟩ := lookup_mem (hmem 10 (by decide))
    obtain ⟨A, q, rfl, hsl⟩ := hW.2 10 v6 m6 rfl
    refine hend _ wz A q ?_ ?_ hsl hW.1
    · show tupAt 0 ((us.lookup 10).getD undef) = _; rw [l6]; rfl
    · show tupAt 1 ((us.lookup 10).getD undef) = _; rw [l6]; rfl
end Go.Proofs.Ytjeecdoffoahkaa
