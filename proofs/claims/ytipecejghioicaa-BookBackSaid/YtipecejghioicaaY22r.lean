/- The drawn regions of book.Own, each over a frame of letters. Printed by gen_y22.py. -/
import Derived.Test.YtipecejghioicaaY21r
import Derived.Test.YtipecejghioicaaY8r
import Derived.Test.YtipecejghioicaaQ12r
import Derived.Test.YtipecejghioicaaF1r
import Derived.Deep.Light
namespace Go.Silo
open Go Go.RowKit
theorem setCell_noop {w : World} {b k : Nat} {cs : Array Value} {T : TypeId} {fr : Nat × Nat} {v : Value} (h : w.heap[b]? = some (.cells cs T fr)) (hv : cs[k]? = some v) : w.setCell ⟨b, k, none⟩ v = w := by
  have hh : (w.setCell ⟨b, k, none⟩ v).heap = w.heap := by
    apply Array.ext_getElem?
    intro i
    by_cases hi : i = b
    · subst hi
      simp only [World.setCell, Array.getElem?_modify, h]
      have : cs.setIfInBounds k v = cs := by
        apply Array.ext_getElem?
        intro j
        rw [Array.getElem?_setIfInBounds]
        by_cases hj : k = j
        · subst hj
          rw [if_pos rfl, hv]
          have := (Array.getElem?_eq_some_iff.1 hv).1
          simp [this]
        · rw [if_neg hj]
      simp [this]
    · exact Below.heap_setCell w ⟨b, k, none⟩ v i hi
  cases w
  simp only [World.setCell] at hh ⊢
  simp only [World.mk.injEq, and_true]
  exact hh
/-- A row that was made, as a value. -/
def CLo {α : Type} (T : TypeId) (E : Enc α) (B : Nat) (S : Nat → Prop) (n : Nat) (xs : List α) (v : Value) (W : World) : Prop := ∃ A c, v = .slice A n c ∧ Own T E W B S A n c xs
/-- Two slices in unlike blocks. -/
def DJ (a b : Value) : Prop := ∀ g, a.ownBlock = some g → b.ownBlock ≠ some g
section
variable {α : Type} {T : TypeId} {E : Enc α} {B n : Nat} {S : Nat → Prop} {xs : List α} {v a : Value} {W W' : World}
theorem CLo.all (h : CLo T E B S n xs v W) (hb : Below W.heap.size W W') : CLo T E B S n xs v W' := by
  obtain ⟨A, c, e, ho⟩ := h; exact ⟨A, c, e, ho.all hb⟩
theorem CLo.set {bb k : Nat} {u : Value} (h : CLo T E B S n xs v W) (hb : bb < B) (hS : ¬ S bb) : CLo T E B S n xs v (W.setCell ⟨bb, k, none⟩ u) := by
  obtain ⟨A, c, e, ho⟩ := h
  refine ⟨A, c, e, ho.frame (Agree.setCell (p := ⟨bb, k, none⟩) (fun h => ?_) u) (by simp)⟩
  rcases h with h | h
  · exact hS h
  · have := (ho.lt _ h.symm).1; exact absurd hb (Nat.not_lt.2 this)
theorem CLo.dj {α' : Type} {T' : TypeId} {E' : Enc α'} {B' n' : Nat} {S' : Nat → Prop} {ys : List α'} {W0 : World} (h : CLo T E B S n xs v W0) (h2 : CLo T' E' B' S' n' ys a W) (hB : W0.heap.size ≤ B') : DJ v a := by
  obtain ⟨A, c, rfl, ho⟩ := h
  obtain ⟨A', c', rfl, ho'⟩ := h2
  intro g h1 h2
  rw [ownBlock_slice] at h1 h2
  have h3 := (ho.lt _ h1).2
  have h4 := (ho'.lt _ h2).1
  omega
end
end Go.Silo
namespace Go.Proofs.Ytipecejghioicaa
open Go.RowKit Go.Silo
/-- The box while the rows are being made. -/
structure OwnQ (w : World) (base bb : Nat) (u0 u1 u2 : Value) (nx : Int) (W : World) : Prop where
  row : W.heap[bb]? = some (.cells #[u0, u1, u2, .int .i64 nx] 28 (0, 0))
  below : Below base w W
  size : w.heap.size ≤ W.heap.size
  same : ∀ g, g < w.heap.size → g ≠ bb → W.heap[g]? = w.heap[g]?
section
variable {w W W' : World} {base bb : Nat} {u0 u1 u2 v : Value} {nx : Int}
theorem OwnQ.all (h : OwnQ w base bb u0 u1 u2 nx W) (hb : Below W.heap.size W W') (hz : base ≤ W.heap.size) : OwnQ w base bb u0 u1 u2 nx W' :=
  ⟨(hb.block _ (Array.getElem?_eq_some_iff.1 h.row).1).trans h.row, h.below.trans (hb.mono hz), Nat.le_trans h.size hb.size, fun g hg hne => (hb.block g (Nat.lt_of_lt_of_le hg h.size)).trans (h.same g hg hne)⟩
theorem setRow4 {w : World} {bb : Nat} {a b c d v : Value} {T : TypeId} (h : w.heap[bb]? = some (.cells #[a, b, c, d] T (0, 0))) :
    (w.setCell ⟨bb, 0, none⟩ v).heap[bb]? = some (.cells #[v, b, c, d] T (0, 0)) ∧ (w.setCell ⟨bb, 1, none⟩ v).heap[bb]? = some (.cells #[a, v, c, d] T (0, 0)) ∧ (w.setCell ⟨bb, 2, none⟩ v).heap[bb]? = some (.cells #[a, b, v, d] T (0, 0)) := by
  refine ⟨?_, ?_, ?_⟩ <;> (rw [setCell_eq_setRow w bb _ _ T (0, 0) v h]; exact setRow_heap w bb _ _ T (0, 0) h)
theorem OwnQ.set (h : OwnQ w base bb u0 u1 u2 nx W) (hb : base ≤ bb) : OwnQ w base bb v u1 u2 nx (W.setCell ⟨bb, 0, none⟩ v) ∧ OwnQ w base bb u0 v u2 nx (W.setCell ⟨bb, 1, none⟩ v) ∧ OwnQ w base bb u0 u1 v nx (W.setCell ⟨bb, 2, none⟩ v) := by
  obtain ⟨r0, r1, r2⟩ := setRow4 (v := v) h.row
  refine ⟨⟨r0, h.below.setCell hb _, by simpa using h.size, fun g hg hne => (Below.heap_setCell _ _ _ _ hne).trans (h.same g hg hne)⟩, ⟨r1, h.below.setCell hb _, by simpa using h.size, fun g hg hne => (Below.heap_setCell _ _ _ _ hne).trans (h.same g hg hne)⟩, ⟨r2, h.below.setCell hb _, by simpa using h.size, fun g hg hne => (Below.heap_setCell _ _ _ _ hne).trans (h.same g hg hne)⟩⟩
end
/-- The three rows. -/
structure All3 (tg0 tg1 : Bool) (B base : Nat) (b : Book) (x y z : Value) (W : World) : Prop where
  c0 : CLo 69 (stripeE tg0) B (fun g => g < base) b.stripes.length b.stripes x W
  c1 : CLo 71 (entryE tg1) B (fun g => g < base) b.things.length b.things y W
  c2 : CLo 73 tagE B (fun g => g < base) b.tags.length b.tags z W
  d01 : DJ x y
  d02 : DJ x z
  d12 : DJ y z
theorem All3.set {tg0 tg1 : Bool} {B base bb k : Nat} {b : Book} {x y z u : Value} {W : World} (h : All3 tg0 tg1 B base b x y z W) (hb : bb < B) (hB : base ≤ bb) : All3 tg0 tg1 B base b x y z (W.setCell ⟨bb, k, none⟩ u) :=
  ⟨h.c0.set hb (Nat.not_lt.2 hB), h.c1.set hb (Nat.not_lt.2 hB), h.c2.set hb (Nat.not_lt.2 hB), h.d01, h.d02, h.d12⟩
/-- What the steps of region 1 have left. -/
def P1 (tg0 tg1 : Bool) (w : World) (base bb : Nat) (u0 u1 u2 : Value) (b : Book) : List Value → World → Prop
  | [], W => OwnQ w base bb u0 u1 u2 b.next W
  | [x], W => OwnQ w base bb u0 u1 u2 b.next W ∧ CLo 69 (stripeE tg0) w.heap.size (fun g => g < base) b.stripes.length b.stripes x W
  | [x, y], W => OwnQ w base bb u0 u1 u2 b.next W ∧ CLo 69 (stripeE tg0) w.heap.size (fun g => g < base) b.stripes.length b.stripes x W ∧ CLo 71 (entryE tg1) w.heap.size (fun g => g < base) b.things.length b.things y W ∧ DJ x y
  | [x, y, z], W => OwnQ w base bb u0 u1 u2 b.next W ∧ All3 tg0 tg1 w.heap.size base b x y z W
  | [x, y, z, _], W => OwnQ w base bb x u1 u2 b.next W ∧ All3 tg0 tg1 w.heap.size base b x y z W
  | [x, y, z, _, _], W => OwnQ w base bb x y u2 b.next W ∧ All3 tg0 tg1 w.heap.size base b x y z W
  | [x, y, z, _, _, _], W => OwnQ w base bb x y z b.next W ∧ All3 tg0 tg1 w.heap.size base b x y z W
  | _, _ => False
theorem P1.early {tg0 tg1 : Bool} {w : World} {base bb : Nat} {u0 u1 u2 : Value} {b : Book} {us : List (Nat × Value)} {W : World} {mem : List Nat} (h : WdK mem (P1 tg0 tg1 w base bb u0 u1 u2 b) us W) (hl : us.length ≤ 3) : OwnQ w base bb u0 u1 u2 b.next W := by
  have hp := h.2.2
  match us, hl, hp with
  | [], _, hp => exact hp
  | [_], _, hp => exact hp.1
  | [_, _], _, hp => exact hp.1
  | [_, _, _], _, hp => exact hp.1
  | _ :: _ :: _ :: _ :: _, hl, _ => simp at hl
noncomputable def ownReg1 : Code := ((Try.f50.body.bind (seekRegion 1)).getD .skip)
set_option maxRecDepth 100000 in
set_option maxHeartbeats 8000000 in
theorem own1 {Q : Exit → Act → World → Prop} {σ : Act} {tg0 tg1 : Bool} {w : World} {base bb : Nat} {A0 A1 A2 : Option Addr} {n0 c0 n1 c1 n2 c2 : Nat} {b : Book} (hbb : base ≤ bb) (hbw : bb < w.heap.size) (hbz : base ≤ w.heap.size) (HQ : Hid (w.heap[bb]? = some (.cells #[.slice A0 n0 c0, .slice A1 n1 c1, .slice A2 n2 c2, .int .i64 b.next] 28 (0, 0)))) (HC0 : Hid (∀ V, OwnQ w base bb (.slice A0 n0 c0) (.slice A1 n1 c1) (.slice A2 n2 c2) b.next V → Calls Try.prog 72 #[.slice A0 n0 c0] V (RetOwnIn 69 (stripeE tg0) V (fun g => g < base ∧ g < V.heap.size) b.stripes))) (HC1 : Hid (∀ V, OwnQ w base bb (.slice A0 n0 c0) (.slice A1 n1 c1) (.slice A2 n2 c2) b.next V → Calls Try.prog 73 #[.slice A1 n1 c1] V (RetOwnIn 71 (entryE tg1) V (fun g => g < base ∧ g < V.heap.size) b.things))) (HC2 : Hid (∀ V, OwnQ w base bb (.slice A0 n0 c0) (.slice A1 n1 c1) (.slice A2 n2 c2) b.next V → Calls Try.prog 74 #[.slice A2 n2 c2] V (RetOwnIn 73 tagE V (fun g => g < base ∧ g < V.heap.size) b.tags))) (hσ : σ.tmps.size = 56) (s1 : σ.eval (.tmp 1) = .pointer (some ⟨bb, 0, none⟩))
    (hend : ∀ (v : Nat → Value) (wz : World) (x y z : Value), OwnQ w base bb x y z b.next wz → All3 tg0 tg1 w.heap.size base b x y z wz → Q .normal (putAll σ (([5, 6, 7, 8, 9, 10, 11, 12, 13, 14, 15, 16] : List Nat).map fun d => (d, v d))) wz) :
    ownReg1.wp Try.prog Q σ w := by
  conv => arg 2; whnf
  refine region_free (by kernel_rfl) (by kernel_rfl) 56 hσ [5, 6, 7, 8, 9, 10, 11, 12, 13, 14, 15, 16] [2, 5, 8, 10, 12, 14] [(7, 2), (10, 5), (13, 8)]
    [(5, [], fun _ => .pointer (some ⟨bb, 0, none⟩)), (6, [], fun _ => .slice A0 n0 c0), (8, [], fun _ => .pointer (some ⟨bb, 1, none⟩)), (9, [], fun _ => .slice A1 n1 c1), (11, [], fun _ => .pointer (some ⟨bb, 2, none⟩)), (12, [], fun _ => .slice A2 n2 c2), (14, [], fun _ => .pointer (some ⟨bb, 0, none⟩)), (15, [], fun _ => .pointer (some ⟨bb, 1, none⟩)), (16, [], fun _ => .pointer (some ⟨bb, 2, none⟩))]
    [[], [10], [], [], [10], [], [], [10]] [[], [], [], [], [], [2], [], [], [5], [], [8], [], [10], [], [12]] [[], [5], [6], [], [8], [9], [], [11], [12], [], [14, 7], [], [15, 10], [], [16, 13]]
    (WdK [2, 5, 8, 10, 12, 14] (P1 tg0 tg1 w base bb (.slice A0 n0 c0) (.slice A1 n1 c1) (.slice A2 n2 c2) b)) (by kernel_rfl) (.init ⟨HQ.out, (Below.refl _ _).drew, Nat.le_refl _, fun _ _ _ => rfl⟩) ⟨?_, ?_, ?_, ?_, ?_, ?_, ?_, ?_, ?_, ?_, ?_, ?_, ?_, ?_, ?_, trivial⟩ ?_
  -- FAST15 cdot
  · (refine OpH.rd rfl rfl (fun ρ us w6 ho ht hc hl hsrc hW => ?_); have e1 := (ho 1 rfl).trans (show _ = (.pointer (some ⟨bb, 0, none⟩) : Value) from s1); clear ht ho; simp only [execOp, e1]; go_simp; try rfl)
  · (refine OpH.rd rfl rfl (fun ρ us w6 ho ht hc hl hsrc hW => ?_); have e5 := (ht 5 (by decide)).trans (show _ = (.pointer (some ⟨bb, 0, none⟩) : Value) from rfl); have r7 := (P1.early hW (hW.short (j := 3) rfl (hl 10 (by decide)))).row; have y0 := cell_of_row _ _ 0 _ _ _ r7; have y1 := cell_of_row _ _ 1 _ _ _ r7; have y2 := cell_of_row _ _ 2 _ _ _ r7; clear r7; clear ht ho; simp only [execOp, e5]; go_simp; try rfl)
  · refine OpH.wr rfl (fun Z us w6 ho ht hni hlim hreq hW K hK => ?_)
    have hlen : us.length = 0 := by
      have h1 := hW.short (j := 0) rfl hni
      omega
    have hq := P1.early hW (by omega)
    obtain rfl := List.eq_nil_of_length_eq_zero hlen
    have e6 := (ht 6 (by decide)).trans (show _ = (.slice A0 n0 c0 : Value) from rfl)
    have hcl := HC0.out w6 hq
    refine step_call rfl 72 #[.tmp 6] #[24] rfl Try.func72 (by kernel_rfl) (by kernel_rfl) #[.slice A0 n0 c0] (by simp [e6]; try first | done | rfl | exact ⟨rfl, rfl⟩) (hcl) ?_
    rintro e w7 ⟨A3, c3, rfl, hown, hb7⟩
    refine ⟨_, rfl, hK _ _ (hW.snoc hlen rfl ?_)⟩
    have hz := Nat.le_trans hbz hq.size
    have hq7 := hq.all hb7 hz
    exact ⟨hq7, A3, c3, rfl, (hown.mono (fun g hg _ => hg.1)).lower hq.size⟩
  · (refine OpH.rd rfl rfl (fun ρ us w6 ho ht hc hl hsrc hW => ?_); have e1 := (ho 1 rfl).trans (show _ = (.pointer (some ⟨bb, 0, none⟩) : Value) from s1); clear ht ho; simp only [execOp, e1]; go_simp; try rfl)
  · (refine OpH.rd rfl rfl (fun ρ us w6 ho ht hc hl hsrc hW => ?_); have e8 := (ht 8 (by decide)).trans (show _ = (.pointer (some ⟨bb, 1, none⟩) : Value) from rfl); have r7 := (P1.early hW (hW.short (j := 3) rfl (hl 10 (by decide)))).row; have y0 := cell_of_row _ _ 0 _ _ _ r7; have y1 := cell_of_row _ _ 1 _ _ _ r7; have y2 := cell_of_row _ _ 2 _ _ _ r7; clear r7; clear ht ho; simp only [execOp, e8]; go_simp; try rfl)
  · refine OpH.wr rfl (fun Z us w6 ho ht hni hlim hreq hW K hK => ?_)
    have hlen : us.length = 1 := by
      have h1 := hW.short (j := 1) rfl hni
      have h2 := hW.long (by decide) (j := 0) rfl (hreq 2 (by decide))
      omega
    have hq := P1.early hW (by omega)
    obtain ⟨x, rfl, hp⟩ := hW.vals1 hlen
    have e9 := (ht 9 (by decide)).trans (show _ = (.slice A1 n1 c1 : Value) from rfl)
    have hcl := HC1.out w6 hq
    refine step_call rfl 73 #[.tmp 9] #[25] rfl Try.func73 (by kernel_rfl) (by kernel_rfl) #[.slice A1 n1 c1] (by simp [e9]; try first | done | rfl | exact ⟨rfl, rfl⟩) (hcl) ?_
    rintro e w7 ⟨A3, c3, rfl, hown, hb7⟩
    refine ⟨_, rfl, hK _ _ (hW.snoc hlen rfl ?_)⟩
    have hz := Nat.le_trans hbz hq.size
    have hq7 := hq.all hb7 hz
    have hn : CLo 71 (entryE tg1) w6.heap.size (fun g => g < base) b.things.length b.things (.slice A3 b.things.length c3) w7 := ⟨A3, c3, rfl, hown.mono (fun g hg _ => hg.1)⟩
    exact ⟨hq7, hp.2.all hb7, ⟨A3, c3, rfl, (hown.mono (fun g hg _ => hg.1)).lower hq.size⟩, hp.2.dj hn (Nat.le_refl _)⟩
  · (refine OpH.rd rfl rfl (fun ρ us w6 ho ht hc hl hsrc hW => ?_); have e1 := (ho 1 rfl).trans (show _ = (.pointer (some ⟨bb, 0, none⟩) : Value) from s1); clear ht ho; simp only [execOp, e1]; go_simp; try rfl)
  · (refine OpH.rd rfl rfl (fun ρ us w6 ho ht hc hl hsrc hW => ?_); have e11 := (ht 11 (by decide)).trans (show _ = (.pointer (some ⟨bb, 2, none⟩) : Value) from rfl); have r7 := (P1.early hW (hW.short (j := 3) rfl (hl 10 (by decide)))).row; have y0 := cell_of_row _ _ 0 _ _ _ r7; have y1 := cell_of_row _ _ 1 _ _ _ r7; have y2 := cell_of_row _ _ 2 _ _ _ r7; clear r7; clear ht ho; simp only [execOp, e11]; go_simp; try rfl)
  · refine OpH.wr rfl (fun Z us w6 ho ht hni hlim hreq hW K hK => ?_)
    have hlen : us.length = 2 := by
      have h1 := hW.short (j := 2) rfl hni
      have h2 := hW.long (by decide) (j := 1) rfl (hreq 5 (by decide))
      omega
    have hq := P1.early hW (by omega)
    obtain ⟨x, y, rfl, hp⟩ := hW.vals2 hlen
    have e12 := (ht 12 (by decide)).trans (show _ = (.slice A2 n2 c2 : Value) from rfl)
    have hcl := HC2.out w6 hq
    refine step_call rfl 74 #[.tmp 12] #[26] rfl Try.func74 (by kernel_rfl) (by kernel_rfl) #[.slice A2 n2 c2] (by simp [e12]; try first | done | rfl | exact ⟨rfl, rfl⟩) (hcl) ?_
    rintro e w7 ⟨A3, c3, rfl, hown, hb7⟩
    refine ⟨_, rfl, hK _ _ (hW.snoc hlen rfl ?_)⟩
    have hz := Nat.le_trans hbz hq.size
    have hq7 := hq.all hb7 hz
    have hn : CLo 73 tagE w6.heap.size (fun g => g < base) b.tags.length b.tags (.slice A3 b.tags.length c3) w7 := ⟨A3, c3, rfl, hown.mono (fun g hg _ => hg.1)⟩
    exact ⟨hq7, hp.2.1.all hb7, hp.2.2.1.all hb7, ⟨A3, c3, rfl, (hown.mono (fun g hg _ => hg.1)).lower hq.size⟩, hp.2.2.2, hp.2.1.dj hn (Nat.le_refl _), hp.2.2.1.dj hn (Nat.le_refl _)⟩
  · (refine OpH.rd rfl rfl (fun ρ us w6 ho ht hc hl hsrc hW => ?_); have e1 := (ho 1 rfl).trans (show _ = (.pointer (some ⟨bb, 0, none⟩) : Value) from s1); clear ht ho; simp only [execOp, e1]; go_simp; try rfl)
  · refine OpH.wr rfl (fun Z us w6 ho ht hni hlim hreq hW K hK => ?_)
    have hlen : us.length = 3 := by
      have h1 := hW.short (j := 3) rfl hni
      have h2 := hW.long (by decide) (j := 2) rfl (hreq 8 (by decide))
      omega
    obtain ⟨x, y, z, rfl, hq, h3⟩ := hW.vals3 hlen
    have hrow := hq.row
    have f0 := (cell_of_row w6 _ 0 _ _ _ hrow).trans (show _ = some (_ : Value) from rfl)
    have f4 := frozen_of_row w6 _ 0 _ _ hrow
    have e14 := (ht 14 (by decide)).trans (show _ = (.pointer (some ⟨bb, 0, none⟩) : Value) from rfl)
    have hv9 := h3.c0
    obtain ⟨A9, c9, rfl, _⟩ := hv9
    have e7 := (ht 7 (by decide)).trans (show _ = (.slice A9 b.stripes.length c9 : Value) from rfl)
    have hdone : WdK [2, 5, 8, 10, 12, 14] (P1 tg0 tg1 w base bb (.slice A0 n0 c0) (.slice A1 n1 c1) (.slice A2 n2 c2) b) (_ ++ [(10, undef)]) (w6.setCell ⟨bb, 0, none⟩ (.slice A9 b.stripes.length c9)) := hW.snoc hlen rfl ⟨(hq.set hbb).1, h3.set hbw hbb⟩
    have HDN := Lib.hid hdone; clear hdone hW hni hlim hreq ho ht hrow hq h3 hlen
    rw [if_pos (by simp [Region.wanted])]
    unfold Oper.wp
    generalize Z.eval = ρ at *
    simp only [execOp, e14, e7]
    go_simp
    exact hK undef _ HDN.out
  · (refine OpH.rd rfl rfl (fun ρ us w6 ho ht hc hl hsrc hW => ?_); have e1 := (ho 1 rfl).trans (show _ = (.pointer (some ⟨bb, 0, none⟩) : Value) from s1); clear ht ho; simp only [execOp, e1]; go_simp; try rfl)
  · refine OpH.wr rfl (fun Z us w6 ho ht hni hlim hreq hW K hK => ?_)
    have hlen : us.length = 4 := by
      have h1 := hW.short (j := 4) rfl hni
      have h2 := hW.long (by decide) (j := 3) rfl (hreq 10 (by decide))
      omega
    obtain ⟨x, y, z, p, rfl, hq, h3⟩ := hW.vals4 hlen
    have hrow := hq.row
    have f0 := (cell_of_row w6 _ 1 _ _ _ hrow).trans (show _ = some (_ : Value) from rfl)
    have f4 := frozen_of_row w6 _ 1 _ _ hrow
    have e15 := (ht 15 (by decide)).trans (show _ = (.pointer (some ⟨bb, 1, none⟩) : Value) from rfl)
    have hv9 := h3.c1
    obtain ⟨A9, c9, rfl, _⟩ := hv9
    have e10 := (ht 10 (by decide)).trans (show _ = (.slice A9 b.things.length c9 : Value) from rfl)
    have hdone : WdK [2, 5, 8, 10, 12, 14] (P1 tg0 tg1 w base bb (.slice A0 n0 c0) (.slice A1 n1 c1) (.slice A2 n2 c2) b) (_ ++ [(12, undef)]) (w6.setCell ⟨bb, 1, none⟩ (.slice A9 b.things.length c9)) := hW.snoc hlen rfl ⟨(hq.set hbb).2.1, h3.set hbw hbb⟩
    have HDN := Lib.hid hdone; clear hdone hW hni hlim hreq ho ht hrow hq h3 hlen
    rw [if_pos (by simp [Region.wanted])]
    unfold Oper.wp
    generalize Z.eval = ρ at *
    simp only [execOp, e15, e10]
    go_simp
    exact hK undef _ HDN.out
  · (refine OpH.rd rfl rfl (fun ρ us w6 ho ht hc hl hsrc hW => ?_); have e1 := (ho 1 rfl).trans (show _ = (.pointer (some ⟨bb, 0, none⟩) : Value) from s1); clear ht ho; simp only [execOp, e1]; go_simp; try rfl)
  · refine OpH.wr rfl (fun Z us w6 ho ht hni hlim hreq hW K hK => ?_)
    have hlen : us.length = 5 := by
      have h1 := hW.short (j := 5) rfl hni
      have h2 := hW.long (by decide) (j := 4) rfl (hreq 12 (by decide))
      omega
    obtain ⟨x, y, z, p, q, rfl, hq, h3⟩ := hW.vals5 hlen
    have hrow := hq.row
    have f0 := (cell_of_row w6 _ 2 _ _ _ hrow).trans (show _ = some (_ : Value) from rfl)
    have f4 := frozen_of_row w6 _ 2 _ _ hrow
    have e16 := (ht 16 (by decide)).trans (show _ = (.pointer (some ⟨bb, 2, none⟩) : Value) from rfl)
    have hv9 := h3.c2
    obtain ⟨A9, c9, rfl, _⟩ := hv9
    have e13 := (ht 13 (by decide)).trans (show _ = (.slice A9 b.tags.length c9 : Value) from rfl)
    have hdone : WdK [2, 5, 8, 10, 12, 14] (P1 tg0 tg1 w base bb (.slice A0 n0 c0) (.slice A1 n1 c1) (.slice A2 n2 c2) b) (_ ++ [(14, undef)]) (w6.setCell ⟨bb, 2, none⟩ (.slice A9 b.tags.length c9)) := hW.snoc hlen rfl ⟨(hq.set hbb).2.2, h3.set hbw hbb⟩
    have HDN := Lib.hid hdone; clear hdone hW hni hlim hreq ho ht hrow hq h3 hlen
    rw [if_pos (by simp [Region.wanted])]
    unfold Oper.wp
    generalize Z.eval = ρ at *
    simp only [execOp, e16, e13]
    go_simp
    exact hK undef _ HDN.out
  -- TSAF
  · intro us wz hmem hW
    have hlen : us.length = 6 := by
      have h1 := hW.2.1
      have h2 := hW.long (by decide) (j := 5) rfl (hmem 14 (by decide))
      simp at h1
      omega
    obtain ⟨x, y, z, p, q, r, rfl, hq, h3⟩ := hW.vals6 hlen
    exact hend _ _ _ _ _ hq h3
/-- An element that is not marked yet. -/
theorem mix_at {α : Type} {T : TypeId} {E F : Enc α} {hsz : F.sz = E.sz} {W : World} {B N n c k : Nat} {S : Nat → Prop} {A : Option Addr} {xs : List α} {d : α} (h : Silo.Own T (mixE N E F hsz) W B S A n c (marks k xs)) (hk : k < n) :
    ∃ g cur vs, A = some ⟨g, 0, none⟩ ∧ B ≤ g ∧ g < W.heap.size ∧ W.heap[g]? = some (.cells cur T (0, 0)) ∧ F.R W (fun b => S b ∧ some b ≠ some g) vs (xs.getD k d) ∧ ∀ j v, vs[j]? = some v → cur[k * E.sz + j]? = some v := by
  obtain ⟨g, cur, rfl, hb, hg, hh, hn, hm, hs, hR, hl⟩ := h.row (.inl (by omega))
  rw [marks_len] at hl
  have hx := hR.2 k _ (marks_at (d := d) (by omega))
  refine ⟨g, cur, _, rfl, hb, hg, hh, hx, fun j v hj => ?_⟩
  rw [List.getElem?_take] at hj
  split at hj
  · next hjl =>
    rw [List.getElem?_drop, List.getElem?_take] at hj
    split at hj
    · have hj2 : cur[k * (mixE N E F hsz).sz + j]? = some v := by simpa using hj
      exact hj2
    · cases hj
  · cases hj
theorem fill_Stripe {tg0 : Bool} {W : World} {B N n c k g M m c' : Nat} {S : Nat → Prop} {A A' : Option Addr} {xs : List Stripe} {x : Stripe} {cur : Array Value} (h : Silo.Own 69 (mixE N (stripeE true) (stripeE tg0) rfl) W B S A n c (marks k xs)) (hk : k < n) (hA : A = some ⟨g, 0, none⟩) (hh : W.heap[g]? = some (.cells cur 69 (0, 0)))
    (hx : xs.getD k default = x) (hok : I64 x.id ∧ I64 x.len ∧ I64 x.gen) (hc : ∀ j v, [.int .i64 x.id, .int .i64 x.len, .int .i64 x.gen][j]? = some v → cur[k * 4 + j]? = some v)
    (ho : Silo.Own 67 slotE W M (fun b => M ≤ b) A' m c' x.place) (hS : ∀ b, M ≤ b → S b ∧ N ≤ b ∧ b ≠ g) :
    Silo.Own 69 (mixE N (stripeE true) (stripeE tg0) rfl) (W.setCell ⟨g, k * 4 + 3, none⟩ (.slice A' m c')) B S A n c (marks (k + 1) xs) := by
  subst hA
  have hl : xs.length = n := by have := h.len; rw [marks_len] at this; exact this
  have hs : Sl true 67 slotE W (fun b => (S b ∧ some b ≠ some g) ∧ N ≤ b) A' m c' x.place := (ho.sl (tg := true)).mono (fun b hb _ => by
    have hb' : M ≤ b := hb.elim (fun h => h) (fun h => h)
    have := hS b hb'
    exact ⟨⟨this.1, fun e => this.2.2 (by injection e)⟩, this.2.1⟩)
  have hy : (mixE N (stripeE true) (stripeE tg0) rfl).R W (fun b => S b ∧ some b ≠ ablk (some ⟨g, 0, none⟩)) [.int .i64 x.id, .int .i64 x.len, .int .i64 x.gen, .slice A' m c'] (x, true) := by
    show (stripeE true).R W (fun b => (S b ∧ some b ≠ some g) ∧ N ≤ b) [.int .i64 x.id, .int .i64 x.len, .int .i64 x.gen, .slice A' m c'] x
    exact ⟨A', m, c', rfl, hok, hs⟩
  obtain ⟨g', e, _, _, h2, _⟩ := h.set_at hk hy
  have e : g = g' := by injection e with e; injection e
  subst e
  have hms : (marks k xs).set k (x, true) = marks (k + 1) xs := by rw [← hx]; exact marks_set (by omega)
  rw [hms] at h2
  have q0 : cur[k * 4]? = _ := hc 0 _ rfl
  have q1 : cur[k * 4 + 1]? = _ := hc 1 _ rfl
  have q2 : cur[k * 4 + 1 + 1]? = _ := hc 2 _ rfl
  have e2 : W.setCells g (k * (mixE N (stripeE true) (stripeE tg0) rfl).sz) [.int .i64 x.id, .int .i64 x.len, .int .i64 x.gen, .slice A' m c'] = W.setCell ⟨g, k * 4 + 3, none⟩ (.slice A' m c') := by
    show W.setCells g (k * 4) [.int .i64 x.id, .int .i64 x.len, .int .i64 x.gen, .slice A' m c'] = W.setCell ⟨g, k * 4 + 3, none⟩ (.slice A' m c')
    simp only [World.setCells]
    rw [setCell_noop hh q0, setCell_noop hh q1, setCell_noop hh q2]
  rw [e2] at h2
  exact h2
/-- What the steps of region 5 have left. -/
def P5 (w : World) (g o k m : Nat) (xs : List Slot) : List Value → World → Prop
  | [], W => Below w.heap.size w W
  | [a], W => Below w.heap.size w W ∧ CLo 67 slotE w.heap.size (fun b => w.heap.size ≤ b) m xs a W
  | [a, _], W => ∃ W0, Below w.heap.size w W0 ∧ CLo 67 slotE w.heap.size (fun b => w.heap.size ≤ b) m xs a W0 ∧ W = W0.setCell ⟨g, o + k * 4 + 3, none⟩ a
  | _, _ => False
theorem P5.early {w : World} {g o k m : Nat} {xs : List Slot} {us : List (Nat × Value)} {W : World} {mem : List Nat} (h : WdK mem (P5 w g o k m xs) us W) (hl : us.length ≤ 1) : Below w.heap.size w W := by
  have hp := h.2.2
  match us, hl, hp with
  | [], _, hp => exact hp
  | [_], _, hp => exact hp.1
  | _ :: _ :: _, hl, _ => simp at hl
noncomputable def ownReg5 : Code := ((Try.f50.body.bind (seekRegion 5)).getD .skip)
set_option maxRecDepth 100000 in
set_option maxHeartbeats 8000000 in
theorem own5 {Q : Exit → Act → World → Prop} {σ : Act} {w : World} {bb g0 o0 k : Nat} {A3 : Option Addr} {n0 c0 n3 c3 : Nat} {xx : List Slot} {u v : Value} {nx : Int} (hlt : k < n0) (HQ : Hid (w.heap[bb]? = some (.cells #[.slice (some ⟨g0, o0, none⟩) n0 c0, u, v, .int .i64 nx] 28 (0, 0)))) (HL3 : Hid (xx.length = n3)) (HE3 : Hid (∀ V, Below w.heap.size w V → V.cell? ⟨g0, o0 + k * 4 + 3, none⟩ = some (.slice A3 n3 c3) ∧ V.frozen? ⟨g0, o0 + k * 4 + 3, none⟩ = false)) (HC : Hid (∀ V, Below w.heap.size w V → Calls Try.prog 39 #[.slice A3 n3 c3] V (RetOwn 67 slotE V xx))) (hσ : σ.tmps.size = 56) (s1 : σ.eval (.tmp 1) = .pointer (some ⟨bb, 0, none⟩)) (s3 : σ.eval (.tmp 3) = .int .i64 (k : Int))
    (hend : ∀ (v : Nat → Value) (W0 : World) (A' : Option Addr) (c' : Nat), Below w.heap.size w W0 → Silo.Own 67 slotE W0 w.heap.size (fun b => w.heap.size ≤ b) A' n3 c' xx → Q .normal (putAll σ (([23, 24, 25, 26, 27, 28, 29, 30, 31, 32, 33, 34] : List Nat).map fun d => (d, v d))) (W0.setCell ⟨g0, o0 + k * 4 + 3, none⟩ (.slice A' n3 c'))) :
    ownReg5.wp Try.prog Q σ w := by
  conv => arg 2; whnf
  refine region_free (by kernel_rfl) (by kernel_rfl) 56 hσ [23, 24, 25, 26, 27, 28, 29, 30, 31, 32, 33, 34] [9, 12] [(32, 9)]
    [(23, [], fun _ => .pointer (some ⟨bb, 0, none⟩)), (24, [], fun _ => .slice (some ⟨g0, o0, none⟩) n0 c0), (25, [], fun _ => .int .i64 (k : Int)), (26, [], fun _ => .pointer (some ⟨bb, 0, none⟩)), (27, [], fun _ => .slice (some ⟨g0, o0, none⟩) n0 c0), (28, [], fun _ => .int .i64 (k : Int)), (29, [], fun _ => .pointer (some ⟨g0, o0 + k * 4, none⟩)), (30, [], fun _ => .pointer (some ⟨g0, o0 + k * 4 + 3, none⟩)), (31, [], fun _ => .slice A3 n3 c3), (33, [], fun _ => .pointer (some ⟨g0, o0 + k * 4, none⟩)), (34, [], fun _ => .pointer (some ⟨g0, o0 + k * 4 + 3, none⟩))]
    [[], [12], [], [], [12], [], [], [], [12]] [[], [], [], [], [], [], [], [], [], [], [], [], [9]] [[], [23], [], [], [26], [], [27, 28], [29], [30], [31], [24, 25], [33], [34, 32]]
    (WdK [9, 12] (P5 w g0 o0 k n3 xx)) (by kernel_rfl) (.init (Below.refl _ _).drew) ⟨?_, ?_, ?_, ?_, ?_, ?_, ?_, ?_, ?_, ?_, ?_, ?_, ?_, trivial⟩ ?_
  -- FAST13 cdot
  · (refine OpH.rd rfl rfl (fun ρ us w6 ho ht hc hl hsrc hW => ?_); have e1 := (ho 1 rfl).trans (show _ = (.pointer (some ⟨bb, 0, none⟩) : Value) from s1); clear ht ho; simp only [execOp, e1]; go_simp; try rfl)
  · (refine OpH.rd rfl rfl (fun ρ us w6 ho ht hc hl hsrc hW => ?_); have e23 := (ht 23 (by decide)).trans (show _ = (.pointer (some ⟨bb, 0, none⟩) : Value) from rfl); have hE := P5.early hW (hW.short (j := 1) rfl (hl 12 (by decide))); have r7 := (hE.block _ (Array.getElem?_eq_some_iff.1 HQ.out).1).trans HQ.out; have y0 := cell_of_row _ _ 0 _ _ _ r7; clear r7; clear ht ho; simp only [execOp, e23]; go_simp; try rfl)
  · (refine OpH.rd rfl rfl (fun ρ us w6 ho ht hc hl hsrc hW => ?_); have e3 := (ho 3 rfl).trans (show _ = (.int .i64 (k : Int) : Value) from s3); clear ht ho; simp only [execOp, e3]; go_simp; try rfl)
  · (refine OpH.rd rfl rfl (fun ρ us w6 ho ht hc hl hsrc hW => ?_); have e1 := (ho 1 rfl).trans (show _ = (.pointer (some ⟨bb, 0, none⟩) : Value) from s1); clear ht ho; simp only [execOp, e1]; go_simp; try rfl)
  · (refine OpH.rd rfl rfl (fun ρ us w6 ho ht hc hl hsrc hW => ?_); have e26 := (ht 26 (by decide)).trans (show _ = (.pointer (some ⟨bb, 0, none⟩) : Value) from rfl); have hE := P5.early hW (hW.short (j := 1) rfl (hl 12 (by decide))); have r7 := (hE.block _ (Array.getElem?_eq_some_iff.1 HQ.out).1).trans HQ.out; have y0 := cell_of_row _ _ 0 _ _ _ r7; clear r7; clear ht ho; simp only [execOp, e26]; go_simp; try rfl)
  · (refine OpH.rd rfl rfl (fun ρ us w6 ho ht hc hl hsrc hW => ?_); have e3 := (ho 3 rfl).trans (show _ = (.int .i64 (k : Int) : Value) from s3); clear ht ho; simp only [execOp, e3]; go_simp; try rfl)
  · (refine OpH.rd rfl rfl (fun ρ us w6 ho ht hc hl hsrc hW => ?_); have e27 := (ht 27 (by decide)).trans (show _ = (.slice (some ⟨g0, o0, none⟩) n0 c0 : Value) from rfl); have e28 := (ht 28 (by decide)).trans (show _ = (.int .i64 (k : Int) : Value) from rfl); clear ht ho; simp only [execOp, e27, e28]; go_simp; try rfl)
  · (refine OpH.rd rfl rfl (fun ρ us w6 ho ht hc hl hsrc hW => ?_); have e29 := (ht 29 (by decide)).trans (show _ = (.pointer (some ⟨g0, o0 + k * 4, none⟩) : Value) from rfl); clear ht ho; simp only [execOp, e29]; go_simp; try rfl)
  · (refine OpH.rd rfl rfl (fun ρ us w6 ho ht hc hl hsrc hW => ?_); have e30 := (ht 30 (by decide)).trans (show _ = (.pointer (some ⟨g0, o0 + k * 4 + 3, none⟩) : Value) from rfl); have hE := P5.early hW (hW.short (j := 1) rfl (hl 12 (by decide))); have y3 := (HE3.out _ hE).1; clear ht ho; simp only [execOp, e30]; go_simp; try rfl)
  · refine OpH.wr rfl (fun Z us w6 ho ht hni hlim hreq hW K hK => ?_)
    have hlen : us.length = 0 := by
      have h1 := hW.short (j := 0) rfl hni
      omega
    obtain rfl := List.eq_nil_of_length_eq_zero hlen
    have hE := P5.early hW (by omega)
    have e31 := (ht 31 (by decide)).trans (show _ = (.slice A3 n3 c3 : Value) from rfl)
    have hcl := HC.out w6 hE
    refine step_call rfl 39 #[.tmp 31] #[52] rfl Try.func39 (by kernel_rfl) (by kernel_rfl) #[.slice A3 n3 c3] (by simp [e31]; try first | done | rfl | exact ⟨rfl, rfl⟩) (hcl) ?_
    rintro e w7 ⟨A4, c4, rfl, hown, hb7⟩
    rw [HL3.out] at hown ⊢
    exact ⟨_, rfl, hK _ _ (hW.snoc hlen rfl ⟨hE.trans (hb7.mono hE.size), A4, c4, rfl, (hown.mono (fun g hg _ => Nat.le_trans hE.size hg)).lower hE.size⟩)⟩
  · (refine OpH.rd rfl rfl (fun ρ us w6 ho ht hc hl hsrc hW => ?_); have e24 := (ht 24 (by decide)).trans (show _ = (.slice (some ⟨g0, o0, none⟩) n0 c0 : Value) from rfl); have e25 := (ht 25 (by decide)).trans (show _ = (.int .i64 (k : Int) : Value) from rfl); clear ht ho; simp only [execOp, e24, e25]; go_simp; try rfl)
  · (refine OpH.rd rfl rfl (fun ρ us w6 ho ht hc hl hsrc hW => ?_); have e33 := (ht 33 (by decide)).trans (show _ = (.pointer (some ⟨g0, o0 + k * 4, none⟩) : Value) from rfl); clear ht ho; simp only [execOp, e33]; go_simp; try rfl)
  · refine OpH.wr rfl (fun Z us w6 ho ht hni hlim hreq hW K hK => ?_)
    have hlen : us.length = 1 := by
      have h1 := hW.short (j := 1) rfl hni
      have h2 := hW.long (by decide) (j := 0) rfl (hreq 9 (by decide))
      omega
    obtain ⟨x, rfl, hB, hC⟩ := hW.vals1 hlen
    obtain ⟨f0, f4⟩ := HE3.out _ hB
    have e34 := (ht 34 (by decide)).trans (show _ = (.pointer (some ⟨g0, o0 + k * 4 + 3, none⟩) : Value) from rfl)
    have hdone : WdK [9, 12] (P5 w g0 o0 k n3 xx) (_ ++ [(12, undef)]) (w6.setCell ⟨g0, o0 + k * 4 + 3, none⟩ x) := hW.snoc hlen rfl ⟨w6, hB, hC, rfl⟩
    have HDN := Lib.hid hdone
    obtain ⟨A9, c9, rfl, _⟩ := hC
    have e32 := (ht 32 (by decide)).trans (show _ = (.slice A9 n3 c9 : Value) from rfl)
    clear hdone hW hni hlim hreq ho ht hlen hB
    rw [if_pos (by simp [Region.wanted])]
    unfold Oper.wp
    generalize Z.eval = ρ at *
    simp only [execOp, e34, e32]
    go_simp
    exact hK undef _ HDN.out
  -- TSAF
  · intro us wz hmem hW
    have hlen : us.length = 2 := by
      have h1 := hW.2.1
      have h2 := hW.long (by decide) (j := 1) rfl (hmem 12 (by decide))
      simp at h1
      omega
    obtain ⟨x, y, rfl, W0, hB, hC, rfl⟩ := hW.vals2 hlen
    obtain ⟨A9, c9, rfl, ho9⟩ := hC
    exact hend _ W0 A9 c9 hB ho9
theorem fill_Entry {tg0 : Bool} {W : World} {B N n c k g M m c' : Nat} {S : Nat → Prop} {A A' : Option Addr} {xs : List Entry} {x : Entry} {cur : Array Value} (h : Silo.Own 71 (mixE N (entryE true) (entryE tg0) rfl) W B S A n c (marks k xs)) (hk : k < n) (hA : A = some ⟨g, 0, none⟩) (hh : W.heap[g]? = some (.cells cur 71 (0, 0)))
    (hx : xs.getD k default = x) (hok : StrOk x.digest ∧ I64 x.len) (hc : ∀ j v, [.string x.digest, .int .i64 x.len, .bool x.man][j]? = some v → cur[k * 4 + j]? = some v)
    (ho : Silo.Own 3 intE W M (fun b => M ≤ b) A' m c' x.list) (hS : ∀ b, M ≤ b → S b ∧ N ≤ b ∧ b ≠ g) :
    Silo.Own 71 (mixE N (entryE true) (entryE tg0) rfl) (W.setCell ⟨g, k * 4 + 3, none⟩ (.slice A' m c')) B S A n c (marks (k + 1) xs) := by
  subst hA
  have hl : xs.length = n := by have := h.len; rw [marks_len] at this; exact this
  have hs : Sl true 3 intE W (fun b => (S b ∧ some b ≠ some g) ∧ N ≤ b) A' m c' x.list := (ho.sl (tg := true)).mono (fun b hb _ => by
    have hb' : M ≤ b := hb.elim (fun h => h) (fun h => h)
    have := hS b hb'
    exact ⟨⟨this.1, fun e => this.2.2 (by injection e)⟩, this.2.1⟩)
  have hy : (mixE N (entryE true) (entryE tg0) rfl).R W (fun b => S b ∧ some b ≠ ablk (some ⟨g, 0, none⟩)) [.string x.digest, .int .i64 x.len, .bool x.man, .slice A' m c'] (x, true) := by
    show (entryE true).R W (fun b => (S b ∧ some b ≠ some g) ∧ N ≤ b) [.string x.digest, .int .i64 x.len, .bool x.man, .slice A' m c'] x
    exact ⟨A', m, c', rfl, hok, hs⟩
  obtain ⟨g', e, _, _, h2, _⟩ := h.set_at hk hy
  have e : g = g' := by injection e with e; injection e
  subst e
  have hms : (marks k xs).set k (x, true) = marks (k + 1) xs := by rw [← hx]; exact marks_set (by omega)
  rw [hms] at h2
  have q0 : cur[k * 4]? = _ := hc 0 _ rfl
  have q1 : cur[k * 4 + 1]? = _ := hc 1 _ rfl
  have q2 : cur[k * 4 + 1 + 1]? = _ := hc 2 _ rfl
  have e2 : W.setCells g (k * (mixE N (entryE true) (entryE tg0) rfl).sz) [.string x.digest, .int .i64 x.len, .bool x.man, .slice A' m c'] = W.setCell ⟨g, k * 4 + 3, none⟩ (.slice A' m c') := by
    show W.setCells g (k * 4) [.string x.digest, .int .i64 x.len, .bool x.man, .slice A' m c'] = W.setCell ⟨g, k * 4 + 3, none⟩ (.slice A' m c')
    simp only [World.setCells]
    rw [setCell_noop hh q0, setCell_noop hh q1, setCell_noop hh q2]
  rw [e2] at h2
  exact h2
/-- What the steps of region 10 have left. -/
def P10 (w : World) (g o k m : Nat) (xs : List Int) : List Value → World → Prop
  | [], W => Below w.heap.size w W
  | [a], W => Below w.heap.size w W ∧ CLo 3 intE w.heap.size (fun b => w.heap.size ≤ b) m xs a W
  | [a, _], W => ∃ W0, Below w.heap.size w W0 ∧ CLo 3 intE w.heap.size (fun b => w.heap.size ≤ b) m xs a W0 ∧ W = W0.setCell ⟨g, o + k * 4 + 3, none⟩ a
  | _, _ => False
theorem P10.early {w : World} {g o k m : Nat} {xs : List Int} {us : List (Nat × Value)} {W : World} {mem : List Nat} (h : WdK mem (P10 w g o k m xs) us W) (hl : us.length ≤ 1) : Below w.heap.size w W := by
  have hp := h.2.2
  match us, hl, hp with
  | [], _, hp => exact hp
  | [_], _, hp => exact hp.1
  | _ :: _ :: _, hl, _ => simp at hl
noncomputable def ownReg10 : Code := ((Try.f50.body.bind (seekRegion 10)).getD .skip)
set_option maxRecDepth 100000 in
set_option maxHeartbeats 8000000 in
theorem own10 {Q : Exit → Act → World → Prop} {σ : Act} {w : World} {bb g0 o0 k : Nat} {A3 : Option Addr} {n0 c0 n3 c3 : Nat} {xx : List Int} {u v : Value} {nx : Int} (hlt : k < n0) (HQ : Hid (w.heap[bb]? = some (.cells #[u, .slice (some ⟨g0, o0, none⟩) n0 c0, v, .int .i64 nx] 28 (0, 0)))) (HL3 : Hid (xx.length = n3)) (HE3 : Hid (∀ V, Below w.heap.size w V → V.cell? ⟨g0, o0 + k * 4 + 3, none⟩ = some (.slice A3 n3 c3) ∧ V.frozen? ⟨g0, o0 + k * 4 + 3, none⟩ = false)) (HC : Hid (∀ V, Below w.heap.size w V → Calls Try.prog 31 #[.slice A3 n3 c3] V (RetOwn 3 intE V xx))) (hσ : σ.tmps.size = 56) (s1 : σ.eval (.tmp 1) = .pointer (some ⟨bb, 0, none⟩)) (s4 : σ.eval (.tmp 4) = .int .i64 (k : Int))
    (hend : ∀ (v : Nat → Value) (W0 : World) (A' : Option Addr) (c' : Nat), Below w.heap.size w W0 → Silo.Own 3 intE W0 w.heap.size (fun b => w.heap.size ≤ b) A' n3 c' xx → Q .normal (putAll σ (([42, 43, 44, 45, 46, 47, 48, 49, 50, 51, 52, 53] : List Nat).map fun d => (d, v d))) (W0.setCell ⟨g0, o0 + k * 4 + 3, none⟩ (.slice A' n3 c'))) :
    ownReg10.wp Try.prog Q σ w := by
  conv => arg 2; whnf
  refine region_free (by kernel_rfl) (by kernel_rfl) 56 hσ [42, 43, 44, 45, 46, 47, 48, 49, 50, 51, 52, 53] [9, 12] [(51, 9)]
    [(42, [], fun _ => .pointer (some ⟨bb, 1, none⟩)), (43, [], fun _ => .slice (some ⟨g0, o0, none⟩) n0 c0), (44, [], fun _ => .int .i64 (k : Int)), (45, [], fun _ => .pointer (some ⟨bb, 1, none⟩)), (46, [], fun _ => .slice (some ⟨g0, o0, none⟩) n0 c0), (47, [], fun _ => .int .i64 (k : Int)), (48, [], fun _ => .pointer (some ⟨g0, o0 + k * 4, none⟩)), (49, [], fun _ => .pointer (some ⟨g0, o0 + k * 4 + 3, none⟩)), (50, [], fun _ => .slice A3 n3 c3), (52, [], fun _ => .pointer (some ⟨g0, o0 + k * 4, none⟩)), (53, [], fun _ => .pointer (some ⟨g0, o0 + k * 4 + 3, none⟩))]
    [[], [12], [], [], [12], [], [], [], [12]] [[], [], [], [], [], [], [], [], [], [], [], [], [9]] [[], [42], [], [], [45], [], [46, 47], [48], [49], [50], [43, 44], [52], [53, 51]]
    (WdK [9, 12] (P10 w g0 o0 k n3 xx)) (by kernel_rfl) (.init (Below.refl _ _).drew) ⟨?_, ?_, ?_, ?_, ?_, ?_, ?_, ?_, ?_, ?_, ?_, ?_, ?_, trivial⟩ ?_
  -- FAST13 cdot
  · (refine OpH.rd rfl rfl (fun ρ us w6 ho ht hc hl hsrc hW => ?_); have e1 := (ho 1 rfl).trans (show _ = (.pointer (some ⟨bb, 0, none⟩) : Value) from s1); clear ht ho; simp only [execOp, e1]; go_simp; try rfl)
  · (refine OpH.rd rfl rfl (fun ρ us w6 ho ht hc hl hsrc hW => ?_); have e42 := (ht 42 (by decide)).trans (show _ = (.pointer (some ⟨bb, 1, none⟩) : Value) from rfl); have hE := P10.early hW (hW.short (j := 1) rfl (hl 12 (by decide))); have r7 := (hE.block _ (Array.getElem?_eq_some_iff.1 HQ.out).1).trans HQ.out; have y0 := cell_of_row _ _ 1 _ _ _ r7; clear r7; clear ht ho; simp only [execOp, e42]; go_simp; try rfl)
  · (refine OpH.rd rfl rfl (fun ρ us w6 ho ht hc hl hsrc hW => ?_); have e4 := (ho 4 rfl).trans (show _ = (.int .i64 (k : Int) : Value) from s4); clear ht ho; simp only [execOp, e4]; go_simp; try rfl)
  · (refine OpH.rd rfl rfl (fun ρ us w6 ho ht hc hl hsrc hW => ?_); have e1 := (ho 1 rfl).trans (show _ = (.pointer (some ⟨bb, 0, none⟩) : Value) from s1); clear ht ho; simp only [execOp, e1]; go_simp; try rfl)
  · (refine OpH.rd rfl rfl (fun ρ us w6 ho ht hc hl hsrc hW => ?_); have e45 := (ht 45 (by decide)).trans (show _ = (.pointer (some ⟨bb, 1, none⟩) : Value) from rfl); have hE := P10.early hW (hW.short (j := 1) rfl (hl 12 (by decide))); have r7 := (hE.block _ (Array.getElem?_eq_some_iff.1 HQ.out).1).trans HQ.out; have y0 := cell_of_row _ _ 1 _ _ _ r7; clear r7; clear ht ho; simp only [execOp, e45]; go_simp; try rfl)
  · (refine OpH.rd rfl rfl (fun ρ us w6 ho ht hc hl hsrc hW => ?_); have e4 := (ho 4 rfl).trans (show _ = (.int .i64 (k : Int) : Value) from s4); clear ht ho; simp only [execOp, e4]; go_simp; try rfl)
  · (refine OpH.rd rfl rfl (fun ρ us w6 ho ht hc hl hsrc hW => ?_); have e46 := (ht 46 (by decide)).trans (show _ = (.slice (some ⟨g0, o0, none⟩) n0 c0 : Value) from rfl); have e47 := (ht 47 (by decide)).trans (show _ = (.int .i64 (k : Int) : Value) from rfl); clear ht ho; simp only [execOp, e46, e47]; go_simp; try rfl)
  · (refine OpH.rd rfl rfl (fun ρ us w6 ho ht hc hl hsrc hW => ?_); have e48 := (ht 48 (by decide)).trans (show _ = (.pointer (some ⟨g0, o0 + k * 4, none⟩) : Value) from rfl); clear ht ho; simp only [execOp, e48]; go_simp; try rfl)
  · (refine OpH.rd rfl rfl (fun ρ us w6 ho ht hc hl hsrc hW => ?_); have e49 := (ht 49 (by decide)).trans (show _ = (.pointer (some ⟨g0, o0 + k * 4 + 3, none⟩) : Value) from rfl); have hE := P10.early hW (hW.short (j := 1) rfl (hl 12 (by decide))); have y3 := (HE3.out _ hE).1; clear ht ho; simp only [execOp, e49]; go_simp; try rfl)
  · refine OpH.wr rfl (fun Z us w6 ho ht hni hlim hreq hW K hK => ?_)
    have hlen : us.length = 0 := by
      have h1 := hW.short (j := 0) rfl hni
      omega
    obtain rfl := List.eq_nil_of_length_eq_zero hlen
    have hE := P10.early hW (by omega)
    have e50 := (ht 50 (by decide)).trans (show _ = (.slice A3 n3 c3 : Value) from rfl)
    have hcl := HC.out w6 hE
    refine step_call rfl 31 #[.tmp 50] #[44] rfl Try.func31 (by kernel_rfl) (by kernel_rfl) #[.slice A3 n3 c3] (by simp [e50]; try first | done | rfl | exact ⟨rfl, rfl⟩) (hcl) ?_
    rintro e w7 ⟨A4, c4, rfl, hown, hb7⟩
    rw [HL3.out] at hown ⊢
    exact ⟨_, rfl, hK _ _ (hW.snoc hlen rfl ⟨hE.trans (hb7.mono hE.size), A4, c4, rfl, (hown.mono (fun g hg _ => Nat.le_trans hE.size hg)).lower hE.size⟩)⟩
  · (refine OpH.rd rfl rfl (fun ρ us w6 ho ht hc hl hsrc hW => ?_); have e43 := (ht 43 (by decide)).trans (show _ = (.slice (some ⟨g0, o0, none⟩) n0 c0 : Value) from rfl); have e44 := (ht 44 (by decide)).trans (show _ = (.int .i64 (k : Int) : Value) from rfl); clear ht ho; simp only [execOp, e43, e44]; go_simp; try rfl)
  · (refine OpH.rd rfl rfl (fun ρ us w6 ho ht hc hl hsrc hW => ?_); have e52 := (ht 52 (by decide)).trans (show _ = (.pointer (some ⟨g0, o0 + k * 4, none⟩) : Value) from rfl); clear ht ho; simp only [execOp, e52]; go_simp; try rfl)
  · refine OpH.wr rfl (fun Z us w6 ho ht hni hlim hreq hW K hK => ?_)
    have hlen : us.length = 1 := by
      have h1 := hW.short (j := 1) rfl hni
      have h2 := hW.long (by decide) (j := 0) rfl (hreq 9 (by decide))
      omega
    obtain ⟨x, rfl, hB, hC⟩ := hW.vals1 hlen
    obtain ⟨f0, f4⟩ := HE3.out _ hB
    have e53 := (ht 53 (by decide)).trans (show _ = (.pointer (some ⟨g0, o0 + k * 4 + 3, none⟩) : Value) from rfl)
    have hdone : WdK [9, 12] (P10 w g0 o0 k n3 xx) (_ ++ [(12, undef)]) (w6.setCell ⟨g0, o0 + k * 4 + 3, none⟩ x) := hW.snoc hlen rfl ⟨w6, hB, hC, rfl⟩
    have HDN := Lib.hid hdone
    obtain ⟨A9, c9, rfl, _⟩ := hC
    have e51 := (ht 51 (by decide)).trans (show _ = (.slice A9 n3 c9 : Value) from rfl)
    clear hdone hW hni hlim hreq ho ht hlen hB
    rw [if_pos (by simp [Region.wanted])]
    unfold Oper.wp
    generalize Z.eval = ρ at *
    simp only [execOp, e53, e51]
    go_simp
    exact hK undef _ HDN.out
  -- TSAF
  · intro us wz hmem hW
    have hlen : us.length = 2 := by
      have h1 := hW.2.1
      have h2 := hW.long (by decide) (j := 1) rfl (hmem 12 (by decide))
      simp at h1
      omega
    obtain ⟨x, y, rfl, W0, hB, hC, rfl⟩ := hW.vals2 hlen
    obtain ⟨A9, c9, rfl, ho9⟩ := hC
    exact hend _ W0 A9 c9 hB ho9
end Go.Proofs.Ytipecejghioicaa
