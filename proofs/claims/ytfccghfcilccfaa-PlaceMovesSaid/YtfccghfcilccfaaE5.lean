/- silolaw15.wakes answers true. -/
import Derived.Test.YtfccghfcilccfaaE4
import Derived.Test.YtfccghfcilccfaaA1
import Derived.Test.YtfccghfcilccfaaT9
namespace Go.Proofs.Ytfccghfcilccfaa
open Go.RowKit Go.Silo

theorem num15_c {w : World} {e : Int} : Calls Try.prog 44 #[.int .i64 e] w (RetV (.int .i64 e) w) := by
  go_enter Try.func44, Try.ntmps44
  go_wp2
  go_ret
  exact ⟨rfl, (by repeat' (first | (with_reducible exact Below.refl _ _) | (with_reducible refine Below.alloc ?_ ?_ _) | (with_reducible refine Below.drew ?_) | (with_reducible refine below_drewN ?_ _) | (with_reducible refine Below.setCell ?_ ?_ _) | (refine via ?_ (by with_reducible assumption) ?_) | (refine via ?_ (below_ext _ _) ?_) | go_size))⟩

theorem need15 : needR ⟨1, 1, 1⟩ ⟨0, 1, 0, [⟨0, 0⟩, ⟨1, 0⟩]⟩ (newX 3 2) [false, true] = (⟨0, [0], [⟨0, 0⟩]⟩, ⟨[true, true, true], [[1], [0, 1], [0, 1]]⟩, 0) := by
  unfold needR
  rw [if_pos ⟨by decide, slotsOkB_true new32_ok, by decide⟩]
  decide

/-- What the steps of 'n, _, e := place.Needs(..)' have yielded ahead of the stores. -/
def RK (V : World) (i : Nat) (v : Value) (W : World) : Prop :=
  (i = 2 → ∃ A0 n0 c0 A1 n1 c1, v = .agg #[.slice A0 n0 c0, .slice A1 n1 c1] ∧ Sl true 4 boolE W (fun _ => True) A0 n0 c0 (newX 3 2).live ∧ Sl true 52 (slE true 3 intE) W (fun _ => True) A1 n1 c1 (newX 3 2).free) ∧
  (i = 3 → ∃ A c, v = .slice A 2 c ∧ Sl true 4 boolE W (fun _ => True) A 2 c [false, true]) ∧
  (i = 4 → ∃ A n c B m d A0 n0 c0 A1 n1 c1, v = .tuple #[.agg #[.int .i64 0, .slice A n c, .slice B m d], .agg #[.slice A0 n0 c0, .slice A1 n1 c1], .int .i64 0] ∧ Sl true 3 intE W (fun _ => True) A n c [0] ∧ Sl true 104 slotE W (fun _ => True) B m d [⟨0, 0⟩]) ∧
  (i = 9 → ∃ g, v = .pointer (some ⟨g, 0, none⟩) ∧ V.heap.size ≤ g ∧ W.heap[g]? = some (.cells #[.int .i64 0, .slice none 0 0, .slice none 0 0] 88 (0, 0))) ∧
  (i = 10 → ∃ g, v = .pointer (some ⟨g, 0, none⟩) ∧ V.heap.size ≤ g ∧ W.heap[g]? = some (.cells #[.slice none 0 0, .slice none 0 0] 62 (0, 0)))
theorem RK.all {V W W' : World} (hb : Below W.heap.size W W') (j : Nat) (v : Value) (h : RK V j v W) : RK V j v W' := by
  obtain ⟨h2, h3, h4, h9, h10⟩ := h
  refine ⟨fun e => ?_, fun e => ?_, fun e => ?_, fun e => ?_, fun e => ?_⟩
  · obtain ⟨A0, n0, c0, A1, n1, c1, e, s0, s1⟩ := h2 e; exact ⟨A0, n0, c0, A1, n1, c1, e, s0.all hb, s1.all hb⟩
  · obtain ⟨A, c, e, s0⟩ := h3 e; exact ⟨A, c, e, s0.all hb⟩
  · obtain ⟨A, n, c, B, m, d, A0, n0, c0, A1, n1, c1, e, s0, s1⟩ := h4 e; exact ⟨A, n, c, B, m, d, A0, n0, c0, A1, n1, c1, e, s0.all hb, s1.all hb⟩
  · obtain ⟨g, e, hg, hr⟩ := h9 e; exact ⟨g, e, hg, (hb.block _ (Array.getElem?_eq_some_iff.1 hr).1).trans hr⟩
  · obtain ⟨g, e, hg, hr⟩ := h10 e; exact ⟨g, e, hg, (hb.block _ (Array.getElem?_eq_some_iff.1 hr).1).trans hr⟩
/-- Behind the first store. -/
def PB (V : World) (us : List (Nat × Value)) (W : World) : Prop :=
  ∃ A n c B m d A0 n0 c0 A1 n1 c1 g2 g3 v0 v1, us.lookup 4 = some (.tuple #[.agg #[.int .i64 0, .slice A n c, .slice B m d], .agg #[.slice A0 n0 c0, .slice A1 n1 c1], .int .i64 0]) ∧ us.lookup 9 = some (.pointer (some ⟨g2, 0, none⟩)) ∧ us.lookup 10 = some (.pointer (some ⟨g3, 0, none⟩)) ∧
    Sl true 3 intE W (fun _ => True) A n c [0] ∧ Sl true 104 slotE W (fun _ => True) B m d [⟨0, 0⟩] ∧ V.heap.size ≤ g2 ∧ V.heap.size ≤ g3 ∧
    W.heap[g2]? = some (.cells #[.int .i64 0, .slice A n c, .slice B m d] 88 (0, 0)) ∧ W.heap[g3]? = some (.cells #[v0, v1] 62 (0, 0))
def WdK (V : World) (us : List (Nat × Value)) (W : World) : Prop :=
  Below V.heap.size V W ∧ (11 ∉ us.map Prod.fst → ∀ i v, (i, v) ∈ us → RK V i v W) ∧ (11 ∈ us.map Prod.fst → (∀ i, i = 2 ∨ i = 3 ∨ i = 4 ∨ i = 9 ∨ i = 10 → i ∈ us.map Prod.fst) ∧ PB V us W)
section
variable {V W W' : World} {us : List (Nat × Value)}
theorem WdK.init : WdK V [] V.drew := ⟨(Below.refl _ _).drew, (fun _ _ _ h => by cases h), (fun h => by cases h)⟩
theorem WdK.early (h : WdK V us W) {i : Nat} (hi : i = 2 ∨ i = 3 ∨ i = 4 ∨ i = 9 ∨ i = 10) (hn : i ∉ us.map Prod.fst) : 11 ∉ us.map Prod.fst := fun h11 => hn ((h.2.2 h11).1 i hi)
theorem WdK.at_ (h : WdK V us W) (hn : 11 ∉ us.map Prod.fst) {i : Nat} (hm : i ∈ us.map Prod.fst) : RK V i ((us.lookup i).getD undef) W := by
  obtain ⟨v, h1, h2⟩ := lookup_mem hm
  rw [h1]
  exact h.2.1 hn i v h2
theorem WdK.snoc (h : WdK V us W) {i : Nat} {x : Value} (hi : i ≠ 11) (hn : 11 ∉ us.map Prod.fst) (hb : Below W.heap.size W W') (hx : RK V i x W') : WdK V (us ++ [(i, x)]) W' := by
  have hno : 11 ∉ (us ++ [(i, x)]).map Prod.fst := by
    rw [List.map_append, List.mem_append]
    rintro (h | h)
    · exact hn h
    · simp at h; exact hi h.symm
  refine ⟨h.1.trans (hb.mono h.1.size), fun _ j v hj => ?_, fun h11 => absurd h11 hno⟩
  rcases List.mem_append.1 hj with hj | hj
  · exact RK.all hb j v (h.2.1 hn j v hj)
  · simp at hj
    obtain ⟨rfl, rfl⟩ := hj
    exact hx
theorem lookup_some {c : Nat} {v : Value} (h : us.lookup c = some v) : c ∈ us.map Prod.fst := by
  induction us with
  | nil => simp at h
  | cons p us ih =>
    obtain ⟨a, b⟩ := p
    rw [List.lookup_cons] at h
    by_cases hc : c = a
    · subst hc; simp
    · have hne : (c == a) = false := by simpa using hc
      rw [hne] at h
      have := ih h
      simp [this]
theorem WdK.pb (h : WdK V us W) (h11 : 11 ∈ us.map Prod.fst) : PB V us W := (h.2.2 h11).2
theorem WdK.tup (h : WdK V us W) (h4 : 4 ∈ us.map Prod.fst) : ∃ A n c B m d A0 n0 c0 A1 n1 c1, us.lookup 4 = some (.tuple #[.agg #[.int .i64 0, .slice A n c, .slice B m d], .agg #[.slice A0 n0 c0, .slice A1 n1 c1], .int .i64 0]) := by
  by_cases h11 : 11 ∈ us.map Prod.fst
  · obtain ⟨A, n, c, B, m, d, A0, n0, c0, A1, n1, c1, _, _, _, _, hl, _⟩ := h.pb h11
    exact ⟨A, n, c, B, m, d, A0, n0, c0, A1, n1, c1, hl⟩
  · obtain ⟨v, h1, h2⟩ := lookup_mem h4
    obtain ⟨A, n, c, B, m, d, A0, n0, c0, A1, n1, c1, e, _⟩ := (h.2.1 h11 4 v h2).2.2.1 rfl
    exact ⟨A, n, c, B, m, d, A0, n0, c0, A1, n1, c1, by rw [h1, e]⟩
theorem Turns.set3 {S : Nat → Prop} {T : TypeId} {g : Nat} {a b c p q r : Value} (hrow : W.heap[g]? = some (.cells #[a, b, c] T (0, 0))) (hS : S g) : Turns S T W (((W.setCell ⟨g, 0, none⟩ p).setCell ⟨g, 1, none⟩ q).setCell ⟨g, 2, none⟩ r) :=
  (((Turns.refl S T W).setCell (p := ⟨g, 0, none⟩) hS (shape_of_cells hrow) p).setCell (p := ⟨g, 1, none⟩) hS ((shape_setCell _ _ _ _).trans (shape_of_cells hrow)) q).setCell (p := ⟨g, 2, none⟩) hS ((shape_setCell _ _ _ _).trans ((shape_setCell _ _ _ _).trans (shape_of_cells hrow))) r
theorem Turns.set2 {S : Nat → Prop} {T : TypeId} {g : Nat} {a b p q : Value} (hrow : W.heap[g]? = some (.cells #[a, b] T (0, 0))) (hS : S g) : Turns S T W ((W.setCell ⟨g, 0, none⟩ p).setCell ⟨g, 1, none⟩ q) :=
  ((Turns.refl S T W).setCell (p := ⟨g, 0, none⟩) hS (shape_of_cells hrow) p).setCell (p := ⟨g, 1, none⟩) hS ((shape_setCell _ _ _ _).trans (shape_of_cells hrow)) q
end

set_option maxRecDepth 100000 in
set_option maxHeartbeats 8000000 in
theorem wakes15_c {w : World} : Calls Try.prog 57 #[] w (RetV (.bool true) w) := by
  have hlit : Own 104 slotE (w.alloc (.cells #[.int .i64 0, .int .i64 0, .int .i64 1, .int .i64 0] 104)) w.heap.size (fun _ => False) (some ⟨w.heap.size, 0, none⟩) 2 2 ([⟨0, 0⟩, ⟨1, 0⟩] : List Slot) :=
    Own.lit [.int .i64 0, .int .i64 0, .int .i64 1, .int .i64 0] ([⟨0, 0⟩, ⟨1, 0⟩] : List Slot) 2 (Nat.le_refl _) (by omega) rfl rfl (fun k y hy => by
      match k, hy with
      | 0, hy => injection hy with hy; subst hy; exact ⟨rfl, show I64 0 by unfold I64; omega, show I64 0 by unfold I64; omega⟩
      | 1, hy => injection hy with hy; subst hy; exact ⟨rfl, show I64 1 by unfold I64; omega, show I64 0 by unfold I64; omega⟩)
  have hpl := (hlit.sl (tg := false)).all (w' := (w.alloc (.cells #[.int .i64 0, .int .i64 0, .int .i64 1, .int .i64 0] 104)).alloc (.cells #[.int .i64 0, .int .i64 1, .int .i64 0, .slice (some ⟨w.heap.size, 0, none⟩) 2 2] 79)) ((Below.refl _ _).alloc (Nat.le_refl _) _)
  have hrow : ((w.alloc (.cells #[.int .i64 0, .int .i64 0, .int .i64 1, .int .i64 0] 104)).alloc (.cells #[.int .i64 0, .int .i64 1, .int .i64 0, .slice (some ⟨w.heap.size, 0, none⟩) 2 2] 79)).heap[w.heap.size + 1]? = some (.cells #[.int .i64 0, .int .i64 1, .int .i64 0, .slice (some ⟨w.heap.size, 0, none⟩) 2 2] 79 (0, 0)) := by
    have := heap_alloc_new (w.alloc (.cells #[.int .i64 0, .int .i64 0, .int .i64 1, .int .i64 0] 104)) (.cells #[.int .i64 0, .int .i64 1, .int .i64 0, .slice (some ⟨w.heap.size, 0, none⟩) 2 2] 79)
    rw [World.size_alloc] at this; exact this
  have hB : Below w.heap.size w ((w.alloc (.cells #[.int .i64 0, .int .i64 0, .int .i64 1, .int .i64 0] 104)).alloc (.cells #[.int .i64 0, .int .i64 1, .int .i64 0, .slice (some ⟨w.heap.size, 0, none⟩) 2 2] 79)) := (by repeat' (first | (with_reducible exact Below.refl _ _) | (with_reducible refine Below.alloc ?_ ?_ _) | (with_reducible refine Below.drew ?_) | (with_reducible refine below_drewN ?_ _) | (with_reducible refine Below.setCell ?_ ?_ _) | (refine via ?_ (by with_reducible assumption) ?_) | (refine via ?_ (below_ext _ _) ?_) | go_size))
  have hz : w.heap.size + 1 < ((w.alloc (.cells #[.int .i64 0, .int .i64 0, .int .i64 1, .int .i64 0] 104)).alloc (.cells #[.int .i64 0, .int .i64 1, .int .i64 0, .slice (some ⟨w.heap.size, 0, none⟩) 2 2] 79)).heap.size := by simp
  have HPL := Lib.hid hpl; clear hpl hlit
  go_enter Try.func57, Try.ntmps57
  go_upto_region 2 with (fail)
  generalize ((w.alloc (.cells #[.int .i64 0, .int .i64 0, .int .i64 1, .int .i64 0] 104)).alloc (.cells #[.int .i64 0, .int .i64 1, .int .i64 0, .slice (some ⟨w.heap.size, 0, none⟩) 2 2] 79)) = W0 at *
  have HB := Lib.hid hB; clear hB
  have HROW : Hid (∀ us W, WdK W0 us W → W.cell? ⟨w.heap.size + 1, 0, none⟩ = some (.int .i64 0) ∧ W.cell? ⟨w.heap.size + 1, 1, none⟩ = some (.int .i64 1) ∧ W.cell? ⟨w.heap.size + 1, 2, none⟩ = some (.int .i64 0) ∧ W.cell? ⟨w.heap.size + 1, 3, none⟩ = some (.slice (some ⟨w.heap.size, 0, none⟩) 2 2)) := Lib.hid (fun us W hW => by
    have r := (hW.1.block _ hz).trans hrow
    exact ⟨cell_of_row W _ 0 _ _ _ r, cell_of_row W _ 1 _ _ _ r, cell_of_row W _ 2 _ _ _ r, cell_of_row W _ 3 _ _ _ r⟩)
  clear hrow
  go_wp2_with fail
  refine region_free (by kernel_rfl) (by kernel_rfl) 33 rfl [10, 11, 12, 13, 14, 9, 15, 16, 17, 2, 3, 4] [2, 3, 4, 9, 10, 11, 12] [(12, 2), (13, 3), (14, 4), (2, 9), (3, 10)]
    [(10, [], fun _ => .agg #[.int .i64 1, .int .i64 1, .int .i64 1]), (11, [], fun _ => .agg #[.int .i64 0, .int .i64 1, .int .i64 0, .slice (some ⟨w.heap.size, 0, none⟩) 2 2]), (9, [4], fun l => l.getD 0 undef), (15, [4], fun l => tupleAt 0 (l.getD 0 undef)), (16, [4], fun l => tupleAt 1 (l.getD 0 undef)), (17, [4], fun l => tupleAt 2 (l.getD 0 undef)), (4, [4], fun l => tupleAt 2 (l.getD 0 undef))]
    [[], [], [], [], [], [], [], [], [], [], [], [], [], []] [[], [], [], [], [2, 3], [], [], [], [], [], [], [2, 3, 4, 9, 10], [2, 3, 4, 9, 10, 11], []]
    [[], [], [], [], [10, 11, 12, 13], [14], [9], [9], [9], [], [], [2, 15], [3, 16], [17]] (WdK W0) (by kernel_rfl) .init ⟨?_, ?_, ?_, ?_, ?_, ?_, ?_, ?_, ?_, ?_, ?_, ?_, ?_, ?_, trivial⟩ ?_
  · (refine OpH.rd rfl rfl (fun ρ us w6 ho ht hc hl hsrc hW => ?_); clear ht ho; simp only [execOp]; go_simp; try rfl)
  · (refine OpH.rd rfl rfl (fun ρ us w6 ho ht hc hl hsrc hW => ?_); have e1 := (ho 1 rfl).trans (show _ = (.pointer (some ⟨w.heap.size + 1, 0, none⟩) : Value) from rfl); obtain ⟨y0, y1, y2, y3⟩ := HROW.out us w6 hW; clear ht ho; simp only [execOp, e1]; go_simp; try rfl)
  · refine OpH.wr rfl (fun Z us w6 ho ht hni hlim hreq hW K hK => ?_)
    have hcl := refNew_c (w := w6) (d := 3) (n := 2) (by omega) (by omega)
    refine step_call rfl 35 #[.const (.int .i64 3), .const (.int .i64 2)] #[3, 3] rfl Try.func35 (by kernel_rfl) (by kernel_rfl) #[.int .i64 3, .int .i64 2] (by simp [Act.eval]) (hcl) ?_
    rintro e w7 ⟨vs, rfl, ⟨A0, n0, c0, A1, n1, c1, rfl, _, s0, s1⟩, hb7⟩
    exact ⟨_, rfl, hK _ _ (hW.snoc (by decide) (hW.early (.inl rfl) hni) hb7 ⟨fun _ => ⟨_, _, _, _, _, _, rfl, s0.mono (fun _ _ _ => trivial), s1.mono (fun _ _ _ => trivial)⟩, (fun h => absurd h (by decide)), (fun h => absurd h (by decide)), (fun h => absurd h (by decide)), (fun h => absurd h (by decide))⟩)⟩
  · refine OpH.wr rfl (fun Z us w6 ho ht hni hlim hreq hW K hK => ?_)
    have hown : Own 4 boolE (w6.alloc (.cells #[.bool false, .bool true] 4)) w6.heap.size (fun _ => False) (some ⟨w6.heap.size, 0, none⟩) 2 2 ([false, true] : List Bool) :=
      Own.lit [.bool false, .bool true] [false, true] 2 (Nat.le_refl _) (by omega) rfl rfl (fun k y hy => by
        match k, hy with
        | 0, hy => injection hy with hy; subst hy; exact ⟨rfl, trivial⟩
        | 1, hy => injection hy with hy; subst hy; exact ⟨rfl, trivial⟩)
    have hn := hW.early (.inr (.inl rfl)) hni
    have key : ∀ g, g = w6.heap.size → WdK W0 (us ++ [(3, .slice (some ⟨g, 0, none⟩) 2 2)]) (w6.alloc (.cells #[.bool false, .bool true] 4)) := by
      rintro g rfl
      exact hW.snoc (by decide) hn ((Below.refl _ _).alloc (Nat.le_refl _) _) ⟨(fun h => absurd h (by decide)), fun _ => ⟨_, _, rfl, (hown.sl (tg := true)).mono (fun _ _ _ => trivial)⟩, (fun h => absurd h (by decide)), (fun h => absurd h (by decide)), (fun h => absurd h (by decide))⟩
    have KEY := Lib.hid key; clear key hW hni hlim hreq ho ht hown hn
    have hc : ∀ v, Z.eval (.const v) = v := fun _ => rfl
    rw [if_pos (by simp [Region.wanted])]
    unfold Oper.wp
    generalize Z.eval = ρ at *
    simp only [execOp, List.map_toArray, List.map_cons, List.map_nil, hc]
    go_simp
    exact hK _ _ (KEY.out _ rfl)
  · refine OpH.wr rfl (fun Z us w6 ho ht hni hlim hreq hW K hK => ?_)
    have hn := hW.early (.inr (.inr (.inl rfl))) hni
    obtain ⟨A0, n0, c0, A1, n1, c1, ev2, s0, s1⟩ := (hW.at_ hn (hreq 2 (by decide))).1 rfl
    obtain ⟨Ag, cg, ev3, sg⟩ := (hW.at_ hn (hreq 3 (by decide))).2.1 rfl
    have e10 := (ht 10 (by decide)).trans (show _ = (.agg #[.int .i64 1, .int .i64 1, .int .i64 1] : Value) from rfl)
    have e11 := (ht 11 (by decide)).trans (show _ = (.agg #[.int .i64 0, .int .i64 1, .int .i64 0, .slice (some ⟨w.heap.size, 0, none⟩) 2 2] : Value) from rfl)
    have e12 := ((ht 12 (by decide)).trans (show _ = (us.lookup 2).getD undef from rfl)).trans ev2
    have e13 := ((ht 13 (by decide)).trans (show _ = (us.lookup 3).getD undef from rfl)).trans ev3
    have hcl := Needs_c (w := w6) (s := ⟨1, 1, 1⟩) (x := ⟨0, 1, 0, [⟨0, 0⟩, ⟨1, 0⟩]⟩) (y := newX 3 2) (good := [false, true]) (show I64 1 ∧ I64 1 ∧ I64 1 by unfold I64; omega) (show I64 0 ∧ I64 1 ∧ I64 0 by unfold I64; omega) (HPL.out.all hW.1) s0 s1 sg
    rw [need15] at hcl
    refine step_call rfl 50 #[.tmp 10, .tmp 11, .tmp 12, .tmp 13] #[23, 79, 62, 30] rfl Try.func50 (by kernel_rfl) (by kernel_rfl) #[.agg #[.int .i64 1, .int .i64 1, .int .i64 1], .agg #[.int .i64 0, .int .i64 1, .int .i64 0, .slice (some ⟨w.heap.size, 0, none⟩) 2 2], .agg #[.slice A0 n0 c0, .slice A1 n1 c1], .slice Ag 2 cg] (by simp [e10, e11, e12, e13]) (hcl) ?_
    rintro e w7 ⟨A, n, c, B, m, d, B0, m0, d0, B1, m1, d1, rfl, t0, t1, _, _, hb7⟩
    exact ⟨_, rfl, hK _ _ (hW.snoc (by decide) hn hb7 ⟨(fun h => absurd h (by decide)), (fun h => absurd h (by decide)), fun _ => ⟨_, _, _, _, _, _, _, _, _, _, _, _, rfl, t0.mono (fun _ _ _ => trivial), t1.mono (fun _ _ _ => trivial)⟩, (fun h => absurd h (by decide)), (fun h => absurd h (by decide))⟩)⟩
  · (refine OpH.rd rfl rfl (fun ρ us w6 ho ht hc hl hsrc hW => ?_); have e14 := (ht 14 (by decide)).trans (show _ = ((us.lookup 4).getD undef : Value) from rfl); clear ht ho; simp only [execOp, e14]; go_simp; try rfl)
  · refine OpH.rd rfl rfl (fun ρ us w6 ho ht hc hl hsrc hW => ?_)
    obtain ⟨A, n, c, B, m, d, A0, n0, c0, A1, n1, c1, hlk⟩ := hW.tup (hsrc 4 (by exact (List.mem_singleton.2 rfl : (4 : Nat) ∈ [4])))
    have e9 := (ht 9 (by decide)).trans (show _ = (us.lookup 4).getD undef from rfl)
    rw [hlk] at e9
    change _ = Result.ok (Next.value (tupleAt 0 ((us.lookup 4).getD undef))) w6
    rw [hlk]
    simp only [execOp, e9]
    go_simp
    try rfl
  · refine OpH.rd rfl rfl (fun ρ us w6 ho ht hc hl hsrc hW => ?_)
    obtain ⟨A, n, c, B, m, d, A0, n0, c0, A1, n1, c1, hlk⟩ := hW.tup (hsrc 4 (by exact (List.mem_singleton.2 rfl : (4 : Nat) ∈ [4])))
    have e9 := (ht 9 (by decide)).trans (show _ = (us.lookup 4).getD undef from rfl)
    rw [hlk] at e9
    change _ = Result.ok (Next.value (tupleAt 1 ((us.lookup 4).getD undef))) w6
    rw [hlk]
    simp only [execOp, e9]
    go_simp
    try rfl
  · refine OpH.rd rfl rfl (fun ρ us w6 ho ht hc hl hsrc hW => ?_)
    obtain ⟨A, n, c, B, m, d, A0, n0, c0, A1, n1, c1, hlk⟩ := hW.tup (hsrc 4 (by exact (List.mem_singleton.2 rfl : (4 : Nat) ∈ [4])))
    have e9 := (ht 9 (by decide)).trans (show _ = (us.lookup 4).getD undef from rfl)
    rw [hlk] at e9
    change _ = Result.ok (Next.value (tupleAt 2 ((us.lookup 4).getD undef))) w6
    rw [hlk]
    simp only [execOp, e9]
    go_simp
    try rfl
  · refine OpH.wr rfl (fun Z us w6 ho ht hni hlim hreq hW K hK => ?_)
    have hn := hW.early (.inr (.inr (.inr (.inl rfl)))) hni
    have hdone : WdK W0 (us ++ [(9, .pointer (some ⟨w6.heap.size, 0, none⟩))]) (w6.alloc (.cells #[.int .i64 0, .slice none 0 0, .slice none 0 0] 88)) := hW.snoc (by decide) hn ((Below.refl _ _).alloc (Nat.le_refl _) _) ⟨(fun h => absurd h (by decide)), (fun h => absurd h (by decide)), (fun h => absurd h (by decide)), fun _ => ⟨_, rfl, hW.1.size, heap_alloc_new _ _⟩, (fun h => absurd h (by decide))⟩
    have HDN := Lib.hid hdone; clear hdone hW hn hni hlim hreq ho ht
    rw [if_pos (by simp [Region.wanted])]
    unfold Oper.wp
    generalize Z.eval = ρ at *
    simp only [execOp]
    go_simp
    exact hK _ _ HDN.out
  · refine OpH.wr rfl (fun Z us w6 ho ht hni hlim hreq hW K hK => ?_)
    have hn := hW.early (.inr (.inr (.inr (.inr rfl)))) hni
    have hdone : WdK W0 (us ++ [(10, .pointer (some ⟨w6.heap.size, 0, none⟩))]) (w6.alloc (.cells #[.slice none 0 0, .slice none 0 0] 62)) := hW.snoc (by decide) hn ((Below.refl _ _).alloc (Nat.le_refl _) _) ⟨(fun h => absurd h (by decide)), (fun h => absurd h (by decide)), (fun h => absurd h (by decide)), (fun h => absurd h (by decide)), fun _ => ⟨_, rfl, hW.1.size, heap_alloc_new _ _⟩⟩
    have HDN := Lib.hid hdone; clear hdone hW hn hni hlim hreq ho ht
    rw [if_pos (by simp [Region.wanted])]
    unfold Oper.wp
    generalize Z.eval = ρ at *
    simp only [execOp]
    go_simp
    exact hK _ _ HDN.out
  · refine OpH.wr rfl (fun Z us w6 ho ht hni hlim hreq hW K hK => ?_)
    obtain ⟨v4, l4, m4⟩ := lookup_mem (hreq 4 (by decide))
    obtain ⟨v9, l9, m9⟩ := lookup_mem (hreq 9 (by decide))
    obtain ⟨v10, l10, m10⟩ := lookup_mem (hreq 10 (by decide))
    obtain ⟨A, n, c, B, m, d, A0, n0, c0, A1, n1, c1, ev4, t0, t1⟩ := (hW.2.1 hni 4 v4 m4).2.2.1 rfl
    obtain ⟨g2, ev9, hg2, r2⟩ := (hW.2.1 hni 9 v9 m9).2.2.2.1 rfl
    obtain ⟨g3, ev10, hg3, r3⟩ := (hW.2.1 hni 10 v10 m10).2.2.2.2 rfl
    subst ev4 ev9 ev10
    have e2 := ((ht 2 (by decide)).trans (show _ = (us.lookup 9).getD undef from rfl)).trans (show _ = (.pointer (some ⟨g2, 0, none⟩) : Value) by rw [l9]; rfl)
    have e15 := ((ht 15 (by decide)).trans (show _ = tupleAt 0 ((us.lookup 4).getD undef) from rfl)).trans (show _ = (.agg #[.int .i64 0, .slice A n c, .slice B m d] : Value) by rw [l4]; rfl)
    have hT : Turns (fun b => W0.heap.size ≤ b) 88 w6 (((w6.setCell ⟨g2, 0, none⟩ (.int .i64 0)).setCell ⟨g2, 1, none⟩ (.slice A n c)).setCell ⟨g2, 2, none⟩ (.slice B m d)) := Turns.set3 r2 hg2
    have hall : ∀ i, i = 2 ∨ i = 3 ∨ i = 4 ∨ i = 9 ∨ i = 10 → i ∈ us.map Prod.fst := fun i hi => hreq i (by rcases hi with rfl | rfl | rfl | rfl | rfl <;> decide)
    have hdone : WdK W0 (us ++ [(11, undef)]) (((w6.setCell ⟨g2, 0, none⟩ (.int .i64 0)).setCell ⟨g2, 1, none⟩ (.slice A n c)).setCell ⟨g2, 2, none⟩ (.slice B m d)) := by
      refine ⟨((hW.1.setCell hg2 _).setCell hg2 _).setCell hg2 _, fun h11 => absurd (by simp) h11, fun _ => ⟨fun i hi => by rw [List.map_append]; exact List.mem_append_left _ (hall i hi), ?_⟩⟩
      exact ⟨A, n, c, B, m, d, A0, n0, c0, A1, n1, c1, g2, g3, _, _, by rw [lookup_snoc_old (hall 4 (by simp))]; exact l4, by rw [lookup_snoc_old (hall 9 (by simp))]; exact l9, by rw [lookup_snoc_old (hall 10 (by simp))]; exact l10,
        hT.sl (intE_avoids _) (by decide) t0, hT.sl (slotE_avoids _) (by decide) t1, hg2, hg3, row_set3 r2, hT.heap r3 (by decide)⟩
    have f0 := (cell_of_row w6 g2 0 _ _ _ r2).trans (show _ = some (Value.int .i64 0) from rfl)
    have f1 := (cell_of_row w6 g2 1 _ _ _ r2).trans (show _ = some (Value.slice none 0 0) from rfl)
    have f2 := (cell_of_row w6 g2 2 _ _ _ r2).trans (show _ = some (Value.slice none 0 0) from rfl)
    have f3 := frozen_of_row w6 g2 0 _ _ r2
    have f4 := frozen_of_row w6 g2 1 _ _ r2
    have f5 := frozen_of_row w6 g2 2 _ _ r2
    have HDN := Lib.hid hdone; clear hdone hW hni hlim hreq ho ht hT hall r2 r3 l4 l9 l10 m4 m9 m10 t0 t1
    rw [if_pos (by simp [Region.wanted])]
    unfold Oper.wp
    generalize Z.eval = ρ at *
    simp only [execOp, e2, e15]
    go_simp
    exact hK undef _ HDN.out
  · refine OpH.wr rfl (fun Z us w6 ho ht hni hlim hreq hW K hK => ?_)
    have h11 := hreq 11 (by decide)
    have hall := (hW.2.2 h11).1
    obtain ⟨A, n, c, B, m, d, A0, n0, c0, A1, n1, c1, g2, g3, v0, v1, l4, l9, l10, t0, t1, hg2, hg3, r2, r3⟩ := hW.pb h11
    have e3 := ((ht 3 (by decide)).trans (show _ = (us.lookup 10).getD undef from rfl)).trans (show _ = (.pointer (some ⟨g3, 0, none⟩) : Value) by rw [l10]; rfl)
    have e16 := ((ht 16 (by decide)).trans (show _ = tupleAt 1 ((us.lookup 4).getD undef) from rfl)).trans (show _ = (.agg #[.slice A0 n0 c0, .slice A1 n1 c1] : Value) by rw [l4]; rfl)
    have hT : Turns (fun b => W0.heap.size ≤ b) 62 w6 ((w6.setCell ⟨g3, 0, none⟩ (.slice A0 n0 c0)).setCell ⟨g3, 1, none⟩ (.slice A1 n1 c1)) := Turns.set2 r3 hg3
    have hdone : WdK W0 (us ++ [(12, undef)]) ((w6.setCell ⟨g3, 0, none⟩ (.slice A0 n0 c0)).setCell ⟨g3, 1, none⟩ (.slice A1 n1 c1)) := by
      refine ⟨(hW.1.setCell hg3 _).setCell hg3 _, fun hn => absurd (by rw [List.map_append]; exact List.mem_append_left _ h11) hn, fun _ => ⟨fun i hi => by rw [List.map_append]; exact List.mem_append_left _ (hall i hi), ?_⟩⟩
      exact ⟨A, n, c, B, m, d, A0, n0, c0, A1, n1, c1, g2, g3, _, _, by rw [lookup_snoc_old (hall 4 (by simp))]; exact l4, by rw [lookup_snoc_old (hall 9 (by simp))]; exact l9, by rw [lookup_snoc_old (hall 10 (by simp))]; exact l10,
        hT.sl (intE_avoids _) (by decide) t0, hT.sl (slotE_avoids _) (by decide) t1, hg2, hg3, hT.heap r2 (by decide), row_set2 r3⟩
    have f0 := (cell_of_row w6 g3 0 _ _ _ r3).trans (show _ = some v0 from rfl)
    have f1 := (cell_of_row w6 g3 1 _ _ _ r3).trans (show _ = some v1 from rfl)
    have f3 := frozen_of_row w6 g3 0 _ _ r3
    have f4 := frozen_of_row w6 g3 1 _ _ r3
    have HDN := Lib.hid hdone; clear hdone hW hni hlim hreq ho ht hT hall r2 r3 l4 l9 l10 t0 t1 h11
    rw [if_pos (by simp [Region.wanted])]
    unfold Oper.wp
    generalize Z.eval = ρ at *
    simp only [execOp, e3, e16]
    go_simp
    exact hK undef _ HDN.out
  · (refine OpH.rd rfl rfl (fun ρ us w6 ho ht hc hl hsrc hW => ?_); have e17 := (ht 17 (by decide)).trans (show _ = (tupleAt 2 ((us.lookup 4).getD undef) : Value) from rfl); clear ht ho; simp only [execOp, e17]; go_simp; try rfl)
  · intro us w7 hmem hW
    obtain ⟨A, n, c, B, m, d, A0, n0, c0, A1, n1, c1, g2, g3, v0, v1, l4, l9, l10, t0, t1, hg2, hg3, r2, r3⟩ := hW.pb (hmem 11 (by decide))
    simp only [putAll, List.map_cons, List.map_nil, List.foldl_cons, List.foldl_nil, Act.put, List.setIfInBounds_toArray, List.set_cons_succ, List.set_cons_zero]
    generalize hsv : slotAt _ _ us = sv
    have hs2 : sv 2 = .pointer (some ⟨g2, 0, none⟩) := by rw [← hsv]; show (us.lookup 9).getD undef = _; rw [l9]; rfl
    have hs4 : sv 4 = .int .i64 0 := by rw [← hsv]; show tupleAt 2 ((us.lookup 4).getD undef) = _; rw [l4]; rfl
    rw [hs2, hs4]
    have HB7 := Lib.hid (HB.out.trans (hW.1.mono (by omega)))
    obtain rfl : n = 1 := t0.len.symm
    obtain rfl : m = 1 := t1.len.symm
    have HT0 := Lib.hid t0; clear t0
    have hzg : g2 < w7.heap.size := (Array.getElem?_eq_some_iff.1 r2).1
    have hzw : w.heap.size ≤ w7.heap.size := HB7.out.size
    clear hsv hs2 hs4 hmem hW l4 l9 l10 r3 t1 HROW HPL
    go_wp2_with fail
    refine num15_c.mono ?_
    rintro e w8 ⟨rfl, hb8⟩
    have hrow8 := (hb8.block _ hzg).trans r2
    have HB8 := Lib.hid (HB7.out.trans (hb8.mono hzw))
    have HT8 := Lib.hid (HT0.out.all hb8)
    have hzg8 : g2 < w8.heap.size := Nat.lt_of_lt_of_le hzg hb8.size
    have hzw8 : w.heap.size ≤ w8.heap.size := HB8.out.size
    clear hb8 r2 HT0 HB7
    have q1 := (cell_of_row w8 g2 1 _ _ _ hrow8).trans (show _ = some (Value.slice A 1 c) from rfl)
    have q2 := (cell_of_row w8 g2 2 _ _ _ hrow8).trans (show _ = some (Value.slice B 1 d) from rfl)
    have hlit0 : Own 3 intE (w8.alloc (.cells #[.int .i64 0] 3)) w8.heap.size (fun _ => False) (some ⟨w8.heap.size, 0, none⟩) 1 1 ([0] : List Int) :=
      Own.lit [.int .i64 0] ([0] : List Int) 1 (Nat.le_refl _) (by omega) rfl rfl (fun k y hy => by
        match k, hy with
        | 0, hy => injection hy with hy; subst hy; exact ⟨rfl, show I64 0 by unfold I64; omega⟩)
    have hec := EqNumbers_c (HT8.out.all ((Below.refl _ _).alloc (Nat.le_refl _) (.cells #[.int .i64 0] 3))) (hlit0.sl (tg := false))
    rw [decide_eq_true (rfl : ([0] : List Int) = [0])] at hec
    have HEC := Lib.hid hec; clear hec hlit0
    go_wp2_with fail
    refine HEC.out.mono ?_
    rintro e w9 ⟨rfl, hb9⟩
    have hrow9 : w9.heap[g2]? = some (.cells #[.int .i64 0, .slice A 1 c, .slice B 1 d] 88 (0, 0)) := (hb9.block _ (by simp; omega)).trans ((Below.heap_alloc _ _ _ hzg8).trans hrow8)
    have HB9 : Hid (Below w.heap.size w w9) := Lib.hid ((HB8.out.alloc hzw8 (.cells #[.int .i64 0] 3)).trans (hb9.mono (by simp; omega)))
    clear hb9 q1 q2
    have q2 := (cell_of_row w9 g2 2 _ _ _ hrow9).trans (show _ = some (Value.slice B 1 d) from rfl)
    go_wp2
    go_ret
    exact ⟨rfl, HB9.out⟩
end Go.Proofs.Ytfccghfcilccfaa
