/- book.Commit; the drawn region of book.All. Printed by gen_y8.py. -/
import Derived.Test.YtipecejghioicaaF1r
import Derived.Test.YtipecejghioicaaN10r
import Derived.Test.YtipecejghioicaaQ12r
import Derived.Test.YtipecejghioicaaY4r
import Derived.Deep.CutBlock
import Derived.Deep.Cut
namespace Go.Silo
open Go Go.RowKit
/-- Calls and blocks in any order, then one operation that writes. -/
inductive WdD (V : World) (R : Nat → Value → World → Prop) (s1 : Nat) (R1 : Value → World → World → Prop) : List (Nat × Value) → World → Prop
  | pre {us : List (Nat × Value)} {W : World} : Below V.heap.size V W → (∀ i v, (i, v) ∈ us → R i v W) → s1 ∉ us.map Prod.fst → WdD V R s1 R1 us W
  | mid {us : List (Nat × Value)} {W0 W : World} {v : Value} : Below V.heap.size V W0 → (∀ i v, (i, v) ∈ us → R i v W0) → R1 v W0 W → s1 ∉ us.map Prod.fst → WdD V R s1 R1 (us ++ [(s1, v)]) W
section
variable {V W W' : World} {R : Nat → Value → World → Prop} {s1 : Nat} {R1 : Value → World → World → Prop} {us : List (Nat × Value)}
theorem WdD.init : WdD V R s1 R1 [] V.drew := .pre (Below.refl _ _).drew (fun _ _ h => by cases h) (by simp)
theorem WdD.early (h : WdD V R s1 R1 us W) (hn : s1 ∉ us.map Prod.fst) : Below V.heap.size V W ∧ (∀ i v, (i, v) ∈ us → R i v W) := by
  cases h with
  | pre a b c => exact ⟨a, b⟩
  | mid _ _ _ _ => exact absurd (by simp) hn
theorem WdD.snoc (h : WdD V R s1 R1 us W) {i : Nat} {x : Value} (h1 : i ≠ s1) (hn : s1 ∉ us.map Prod.fst) (hb : Below W.heap.size W W') (hs : ∀ j v, R j v W → R j v W') (hx : R i x W') : WdD V R s1 R1 (us ++ [(i, x)]) W' := by
  obtain ⟨hB, hR⟩ := h.early hn
  refine .pre (hB.trans (hb.mono hB.size)) (fun j v hj => ?_) ?_
  · rcases List.mem_append.1 hj with hj | hj
    · exact hs j v (hR j v hj)
    · simp at hj
      obtain ⟨rfl, rfl⟩ := hj
      exact hx
  · rw [List.map_append, List.mem_append]
    rintro (h | h)
    · exact hn h
    · simp at h; exact h1 h.symm
theorem WdD.call (h : WdD V R s1 R1 us W) {x : Value} (hn : s1 ∉ us.map Prod.fst) (hx : R1 x W W') : WdD V R s1 R1 (us ++ [(s1, x)]) W' := .mid (h.early hn).1 (h.early hn).2 hx hn
theorem WdD.last (h : WdD V R s1 R1 us W) (h1 : s1 ∈ us.map Prod.fst) : ∃ us0 W0 v, us = us0 ++ [(s1, v)] ∧ Below V.heap.size V W0 ∧ R1 v W0 W ∧ s1 ∉ us0.map Prod.fst := by
  cases h with
  | pre _ _ h => exact absurd h1 h
  | mid a _ b c => exact ⟨_, _, _, rfl, a, b, c⟩
theorem WdD.kept {r : Option Nat} (h : WdD V R s1 R1 us W) (hR : ∀ v W0 W, R1 v W0 W → Chg r W0 W) {g : Nat} (hg : g < V.heap.size) (h0 : some g ≠ r) : W.heap[g]? = V.heap[g]? := by
  cases h with
  | pre a _ _ => exact a.block g hg
  | mid a _ b _ => exact ((hR _ _ _ b).agree g h0 (Nat.lt_of_lt_of_le hg a.size)).trans (a.block g hg)
end
theorem sl_ints' {W : World} {g n : Nat} {T : TypeId} {xs : List Int} (hn : xs.length = n) (hcap : n ≤ 9223372036854775807) (hv : ∀ x ∈ xs, I64 x) (h : W.heap[g]? = some (.cells (xs.map (fun x => Value.int .i64 x)).toArray T (0, 0))) : Sl true T intE W (fun b => b = g) (some ⟨g, 0, none⟩) n n xs := by
  refine ⟨hn, Nat.le_refl _, hcap, fun _ => ⟨g, 0, rfl, rfl, (Array.getElem?_eq_some_iff.1 h).1, fun _ => ⟨_, shape_of_cells h⟩, fun k y hk => ⟨[.int .i64 y], ⟨rfl, hv y (List.mem_of_getElem? hk)⟩, fun i u hi => ?_⟩⟩⟩
  match i, hi with
  | 0, hi =>
    injection hi with hi; subst hi
    have e : 0 + k * intE.sz + 0 = k := by show 0 + k * 1 + 0 = k; omega
    rw [e]
    have hc : (xs.map (fun x => Value.int .i64 x)).toArray[k]? = some (.int .i64 y) := by rw [List.getElem?_toArray, List.getElem?_map, hk]; rfl
    exact ⟨(cell_of_row W g k _ _ _ h).trans hc, frozen_of_row W g k _ _ h⟩
theorem sl_one_slot' {W : World} {g : Nat} {p : Slot} {T : TypeId} (hv : I64 p.disk ∧ I64 p.pos) (h : W.heap[g]? = some (.cells #[.int .i64 p.disk, .int .i64 p.pos] T (0, 0))) : Sl true T slotE W (fun b => b = g) (some ⟨g, 0, none⟩) 1 1 [p] := by
  refine ⟨rfl, Nat.le_refl _, by decide, fun _ => ⟨g, 0, rfl, rfl, (Array.getElem?_eq_some_iff.1 h).1, fun _ => ⟨_, shape_of_cells h⟩, fun k y hk => ?_⟩⟩
  match k, hk with
  | 0, hk =>
    injection hk with hk; subst hk
    refine ⟨[.int .i64 p.disk, .int .i64 p.pos], ⟨rfl, hv⟩, fun i u hi => ?_⟩
    match i, hi with
    | 0, hi => injection hi with hi; subst hi; exact ⟨cell_of_row W g 0 _ _ _ h, frozen_of_row W g 0 _ _ h⟩
    | 1, hi => injection hi with hi; subst hi; exact ⟨cell_of_row W g 1 _ _ _ h, frozen_of_row W g 1 _ _ h⟩
theorem Own.lower {α : Type} {T : TypeId} {E : Enc α} {w : World} {base base' : Nat} {S : Nat → Prop} {A : Option Addr} {n c : Nat} {xs : List α} (h : Own T E w base S A n c xs) (hb : base' ≤ base) : Own T E w base' S A n c xs := by
  obtain ⟨cs, ⟨h1, h2⟩, h3, h4⟩ := h
  refine ⟨cs, ⟨h1, ?_⟩, h3, h4⟩
  rcases h2 with h2 | ⟨g, cap, cur, e, hg, rest⟩
  · exact .inl h2
  · exact .inr ⟨g, cap, cur, e, Nat.le_trans hb hg, rest⟩
theorem mem_at {α : Type} {l : List α} {j : Nat} {d : α} (h : j < l.length) : l.getD j d ∈ l := by
  rw [List.getD_eq_getElem?_getD, List.getElem?_eq_getElem h]; exact List.getElem_mem h
theorem setAll_6 {g : Nat} {a b c d e f u v z y s t : Value} {T : TypeId} {W : World} (h : W.heap[g]? = some (.cells #[u, v, z, y, s, t] T (0, 0))) : (setAll g 0 [a, b, c, d, e, f] W).heap[g]? = some (.cells #[a, b, c, d, e, f] T (0, 0)) := by
  simp [setAll, World.setCell, Array.getElem?_modify, h]
end Go.Silo
namespace Go.Proofs.Ytipecejghioicaa
open Go.RowKit Go.Silo
theorem Try.info_Record : (Try.prog.info? 54).map (fun i => (i.zero, i.size, i.bytes)) = some (some (.agg #[.int .i64 0, .int .i64 0, .string ByteArray.empty, .string ByteArray.empty, .slice none 0 0, .slice none 0 0]), 6, 96) := by kernel_rfl
/-- The record of a stripe. -/
def commitR (x : Stripe) : Record := ⟨2, x.id, ByteArray.empty, ByteArray.empty, [x.len, x.gen], x.place⟩
/-- The record of a thing. -/
def thingR (x : Entry) : Record := ⟨if x.man then 5 else 4, x.len, ByteArray.empty, x.digest, x.list, []⟩
/-- The record of a tag. -/
def tagR (x : Tag) : Record := ⟨7, 0, x.name, x.digest, [], []⟩
theorem strOk_nil : StrOk ByteArray.empty := by unfold StrOk; simp
/-- The parts of a stripe's record. -/
def RCm (ln gn : Int) (xs : List Slot) (V : World) (i : Nat) (v : Value) (W : World) : Prop :=
  (i = 6 → ∃ g, v = .slice (some ⟨g, 0, none⟩) 2 2 ∧ V.heap.size ≤ g ∧ W.heap[g]? = some (.cells #[.int .i64 ln, .int .i64 gn] 3 (0, 0))) ∧
  (i = 9 → ∃ A c, v = .slice A xs.length c ∧ Sl true 67 slotE W (fun q => V.heap.size ≤ q) A xs.length c xs)
theorem RCm.all {ln gn : Int} {xs : List Slot} {V W W' : World} (hb : Below W.heap.size W W') (j : Nat) (v : Value) (h : RCm ln gn xs V j v W) : RCm ln gn xs V j v W' :=
  ⟨fun hj => by obtain ⟨g, a, b, c⟩ := h.1 hj; exact ⟨g, a, b, (hb.block _ (Array.getElem?_eq_some_iff.1 c).1).trans c⟩, fun hj => by obtain ⟨A, c, e, t⟩ := h.2 hj; exact ⟨A, c, e, t.all hb⟩⟩
def stCm (g : Nat) (id : Int) (us : List (Nat × Value)) (W : World) : World := setAll g 0 [.int .i64 2, .int .i64 id, .string ⟨#[]⟩, .string ⟨#[]⟩, (us.lookup 6).getD undef, (us.lookup 9).getD undef] W
set_option maxRecDepth 100000 in
set_option maxHeartbeats 4000000 in
theorem Commit_c {tg : Bool} {S : Nat → Prop} {w : World} {A : Option Addr} {n c : Nat} {x : Stripe} (hok : I64 x.id ∧ I64 x.len ∧ I64 x.gen) (h : Sl tg 67 slotE w S A n c x.place) (hn : n ≤ 100000000) :
    Calls Try.prog 30 #[.agg #[.int .i64 x.id, .int .i64 x.len, .int .i64 x.gen, .slice A n c]] w (RetE (recordE true) w (commitR x)) := by
  obtain ⟨id, ln, gn, xs⟩ := x
  simp only at hok h ⊢
  have hal : Below w.heap.size w ((w.alloc (.cells #[.int .i64 id, .int .i64 ln, .int .i64 gn, .slice A n c] 69)).alloc (.cells #[.int .i64 0, .int .i64 0, .string ⟨#[]⟩, .string ⟨#[]⟩, .slice none 0 0, .slice none 0 0] 54)) := (by repeat' (first | (with_reducible exact Below.refl _ _) | (with_reducible refine Below.alloc ?_ ?_ _) | (with_reducible refine Below.drew ?_) | (with_reducible refine below_drewN ?_ _) | (with_reducible refine Below.setCell ?_ ?_ _) | (refine via ?_ (by with_reducible assumption) ?_) | (refine via ?_ (below_ext _ _) ?_) | go_size))
  have hr2 := heap_alloc_new (w.alloc (.cells #[.int .i64 id, .int .i64 ln, .int .i64 gn, .slice A n c] 69)) (.cells #[.int .i64 0, .int .i64 0, .string ⟨#[]⟩, .string ⟨#[]⟩, .slice none 0 0, .slice none 0 0] 54)
  have hr1 : ((w.alloc (.cells #[.int .i64 id, .int .i64 ln, .int .i64 gn, .slice A n c] 69)).alloc (.cells #[.int .i64 0, .int .i64 0, .string ⟨#[]⟩, .string ⟨#[]⟩, .slice none 0 0, .slice none 0 0] 54)).heap[w.heap.size]? = some (.cells #[.int .i64 id, .int .i64 ln, .int .i64 gn, .slice A n c] 69 (0, 0)) := (Below.heap_alloc _ _ _ (by simp)).trans (heap_alloc_new w _)
  rw [World.size_alloc] at hr2
  have hz : w.heap.size + 1 < ((w.alloc (.cells #[.int .i64 id, .int .i64 ln, .int .i64 gn, .slice A n c] 69)).alloc (.cells #[.int .i64 0, .int .i64 0, .string ⟨#[]⟩, .string ⟨#[]⟩, .slice none 0 0, .slice none 0 0] 54)).heap.size := by simp
  have HCL := Lib.hid (fun W (hW : Below w.heap.size w W) => Clone_slot (h.all hW) hn)
  have HOK := Lib.hid hok
  clear h hok
  go_enter Try.func30, Try.ntmps30
  go_upto_region 1 with (fail)
  generalize ((w.alloc (.cells #[.int .i64 id, .int .i64 ln, .int .i64 gn, .slice A n c] 69)).alloc (.cells #[.int .i64 0, .int .i64 0, .string ⟨#[]⟩, .string ⟨#[]⟩, .slice none 0 0, .slice none 0 0] 54)) = w1 at *
  have HAL := Lib.hid hal; clear hal
  have R1 := Lib.hid hr1; clear hr1
  have R2 := Lib.hid hr2; clear hr2
  refine region_free (by kernel_rfl) (by kernel_rfl) 14 rfl [3, 4, 5, 6, 7, 8, 9, 10, 11, 12, 13] [6, 9, 11] [(9, 6), (12, 9)]
    [(3, [], fun _ => .pointer (some ⟨w.heap.size, 0, none⟩)), (4, [], fun _ => .int .i64 id), (5, [], fun _ => .pointer (some ⟨w.heap.size, 1, none⟩)), (6, [], fun _ => .int .i64 ln), (7, [], fun _ => .pointer (some ⟨w.heap.size, 2, none⟩)), (8, [], fun _ => .int .i64 gn), (10, [], fun _ => .pointer (some ⟨w.heap.size, 3, none⟩)), (11, [], fun _ => .slice A n c), (13, [6, 9], fun l => .agg #[.int .i64 2, .int .i64 id, .string ⟨#[]⟩, .string ⟨#[]⟩, l.getD 0 undef, l.getD 1 undef])]
    [[11], [11], [11], [11], [11], [11], [11], [11], [11], [11], [11]] [[], [], [], [], [], [], [], [], [], [], [], [6, 9]] [[], [3], [], [5], [], [7], [6, 8], [], [10], [11], [4, 9, 12], [13]]
    (WdS w1 (RCm ln gn xs w1) 11 (stCm (w.heap.size + 1) id)) (by kernel_rfl) .init ⟨?_, ?_, ?_, ?_, ?_, ?_, ?_, ?_, ?_, ?_, ?_, ?_, trivial⟩ ?_
  -- FAST12 cdot
  · (refine OpH.rd rfl rfl (fun ρ us w6 ho ht hc hl hsrc hW => ?_); have e1 := (ho 1 rfl).trans (show _ = (.pointer (some ⟨w.heap.size, 0, none⟩) : Value) from rfl); clear ht ho; simp only [execOp, e1]; go_simp; try rfl)
  · (refine OpH.rd rfl rfl (fun ρ us w6 ho ht hc hl hsrc hW => ?_); have e3 := (ht 3 (by decide)).trans (show _ = (.pointer (some ⟨w.heap.size, 0, none⟩) : Value) from rfl); have r1 := ((hW.early (hl 11 (by decide))).1.block _ (Array.getElem?_eq_some_iff.1 R1.out).1).trans R1.out; have y0 := cell_of_row _ _ 0 _ _ _ r1; have y1 := cell_of_row _ _ 1 _ _ _ r1; have y2 := cell_of_row _ _ 2 _ _ _ r1; have y3 := cell_of_row _ _ 3 _ _ _ r1; clear r1; clear ht ho; simp only [execOp, e3]; go_simp; try rfl)
  · (refine OpH.rd rfl rfl (fun ρ us w6 ho ht hc hl hsrc hW => ?_); have e1 := (ho 1 rfl).trans (show _ = (.pointer (some ⟨w.heap.size, 0, none⟩) : Value) from rfl); clear ht ho; simp only [execOp, e1]; go_simp; try rfl)
  · (refine OpH.rd rfl rfl (fun ρ us w6 ho ht hc hl hsrc hW => ?_); have e5 := (ht 5 (by decide)).trans (show _ = (.pointer (some ⟨w.heap.size, 1, none⟩) : Value) from rfl); have r1 := ((hW.early (hl 11 (by decide))).1.block _ (Array.getElem?_eq_some_iff.1 R1.out).1).trans R1.out; have y0 := cell_of_row _ _ 0 _ _ _ r1; have y1 := cell_of_row _ _ 1 _ _ _ r1; have y2 := cell_of_row _ _ 2 _ _ _ r1; have y3 := cell_of_row _ _ 3 _ _ _ r1; clear r1; clear ht ho; simp only [execOp, e5]; go_simp; try rfl)
  · (refine OpH.rd rfl rfl (fun ρ us w6 ho ht hc hl hsrc hW => ?_); have e1 := (ho 1 rfl).trans (show _ = (.pointer (some ⟨w.heap.size, 0, none⟩) : Value) from rfl); clear ht ho; simp only [execOp, e1]; go_simp; try rfl)
  · (refine OpH.rd rfl rfl (fun ρ us w6 ho ht hc hl hsrc hW => ?_); have e7 := (ht 7 (by decide)).trans (show _ = (.pointer (some ⟨w.heap.size, 2, none⟩) : Value) from rfl); have r1 := ((hW.early (hl 11 (by decide))).1.block _ (Array.getElem?_eq_some_iff.1 R1.out).1).trans R1.out; have y0 := cell_of_row _ _ 0 _ _ _ r1; have y1 := cell_of_row _ _ 1 _ _ _ r1; have y2 := cell_of_row _ _ 2 _ _ _ r1; have y3 := cell_of_row _ _ 3 _ _ _ r1; clear r1; clear ht ho; simp only [execOp, e7]; go_simp; try rfl)
  · refine OpH.wr rfl (fun Z us w6 ho ht hni hlim hreq hW K hK => ?_)
    have e6 := (ht 6 (by decide)).trans (show _ = (.int .i64 ln : Value) from rfl)
    have e8 := (ht 8 (by decide)).trans (show _ = (.int .i64 gn : Value) from rfl)
    have hn := hlim 11 (by decide)
    have hdone := hW.snoc (i := 6) (x := .slice (some ⟨w6.heap.size, 0, none⟩) 2 2) (by decide) hn ((Below.refl _ _).alloc (Nat.le_refl _) (.cells #[.int .i64 ln, .int .i64 gn] 3)) (fun j v h => RCm.all ((Below.refl _ _).alloc (Nat.le_refl _) _) j v h) ⟨fun _ => ⟨_, rfl, (hW.early hn).1.size, heap_alloc_new _ _⟩, fun h => absurd h (by decide)⟩
    have HDN := Lib.hid hdone; clear hdone hW hni hlim hreq ho ht hn
    rw [if_pos (by simp [Region.wanted])]
    unfold Oper.wp
    generalize Z.eval = ρ at *
    simp only [execOp, List.map_toArray, List.map_cons, List.map_nil, e6, e8]
    go_simp
    exact hK _ _ HDN.out
  · (refine OpH.rd rfl rfl (fun ρ us w6 ho ht hc hl hsrc hW => ?_); have e1 := (ho 1 rfl).trans (show _ = (.pointer (some ⟨w.heap.size, 0, none⟩) : Value) from rfl); clear ht ho; simp only [execOp, e1]; go_simp; try rfl)
  · (refine OpH.rd rfl rfl (fun ρ us w6 ho ht hc hl hsrc hW => ?_); have e10 := (ht 10 (by decide)).trans (show _ = (.pointer (some ⟨w.heap.size, 3, none⟩) : Value) from rfl); have r1 := ((hW.early (hl 11 (by decide))).1.block _ (Array.getElem?_eq_some_iff.1 R1.out).1).trans R1.out; have y0 := cell_of_row _ _ 0 _ _ _ r1; have y1 := cell_of_row _ _ 1 _ _ _ r1; have y2 := cell_of_row _ _ 2 _ _ _ r1; have y3 := cell_of_row _ _ 3 _ _ _ r1; clear r1; clear ht ho; simp only [execOp, e10]; go_simp; try rfl)
  · refine OpH.wr rfl (fun Z us w6 ho ht hni hlim hreq hW K hK => ?_)
    have e11 := (ht 11 (by decide)).trans (show _ = (.slice A n c : Value) from rfl)
    have hn := hlim 11 (by decide)
    have hb6 := (hW.early hn).1
    have hcl := HCL.out w6 (HAL.out.trans (hb6.mono HAL.out.size))
    refine step_call rfl 39 #[.tmp 11] #[52] rfl Try.func39 (by kernel_rfl) (by kernel_rfl) #[.slice A n c] (by simp [e11]; try first | done | rfl | exact ⟨rfl, rfl⟩) (hcl) ?_
    rintro e w7 ⟨A3, c3, rfl, hown, hb7⟩
    exact ⟨_, rfl, hK _ _ (hW.snoc (by decide) hn hb7 (fun j v h => RCm.all hb7 j v h) ⟨fun h => absurd h (by decide), fun _ => ⟨A3, c3, rfl, (hown.sl (tg := true)).mono (fun q hq _ => Nat.le_trans hb6.size (hq.elim (fun h => h) (fun h => h)))⟩⟩)⟩
  · refine OpH.rd rfl rfl (fun ρ us w6 ho ht hc hl hsrc hW => ?_)
    have hE := hW.early (hl 11 (by decide))
    obtain ⟨v6, l6, m6⟩ := lookup_mem (hsrc 6 (by exact (by decide : (6 : Nat) ∈ [6, 9])))
    obtain ⟨v9, l9, m9⟩ := lookup_mem (hsrc 9 (by exact (by decide : (9 : Nat) ∈ [6, 9])))
    obtain ⟨g6, rfl, hg6, r6⟩ := (hE.2 6 v6 m6).1 rfl
    obtain ⟨A3, c3, rfl, hs9⟩ := (hE.2 9 v9 m9).2 rfl
    have e4 := (ht 4 (by decide)).trans (show _ = (.int .i64 id : Value) from rfl)
    have e9 := ((ht 9 (by decide)).trans (show _ = (us.lookup 6).getD undef from rfl)).trans (show _ = (.slice (some ⟨g6, 0, none⟩) 2 2 : Value) by rw [l6]; rfl)
    have e12 := ((ht 12 (by decide)).trans (show _ = (us.lookup 9).getD undef from rfl)).trans (show _ = (.slice A3 xs.length c3 : Value) by rw [l9]; rfl)
    change _ = Result.ok (Next.value (.agg #[.int .i64 2, .int .i64 id, .string ⟨#[]⟩, .string ⟨#[]⟩, (us.lookup 6).getD undef, (us.lookup 9).getD undef])) w6
    rw [l6, l9]
    have hcst : ∀ v, ρ (.const v) = v := hc
    clear ht ho hl hsrc hW hE l6 l9 m6 m9 r6 hs9
    simp only [execOp, List.map_toArray, List.map_cons, List.map_nil, e4, e9, e12, hcst]
    go_simp
  · refine OpH.wr rfl (fun Z us w6 ho ht hni hlim hreq hW K hK => ?_)
    have hE := hW.early hni
    obtain ⟨v6, l6, m6⟩ := lookup_mem (hreq 6 (by decide))
    obtain ⟨v9, l9, m9⟩ := lookup_mem (hreq 9 (by decide))
    obtain ⟨g6, rfl, hg6, r6⟩ := (hE.2 6 v6 m6).1 rfl
    obtain ⟨A3, c3, rfl, hs9⟩ := (hE.2 9 v9 m9).2 rfl
    have e2 := (ho 2 rfl).trans (show _ = (.pointer (some ⟨w.heap.size + 1, 0, none⟩) : Value) from rfl)
    have e13 := ((ht 13 (by decide)).trans (show _ = (.agg #[.int .i64 2, .int .i64 id, .string ⟨#[]⟩, .string ⟨#[]⟩, (us.lookup 6).getD undef, (us.lookup 9).getD undef] : Value) from rfl)).trans (show _ = (.agg #[.int .i64 2, .int .i64 id, .string ⟨#[]⟩, .string ⟨#[]⟩, .slice (some ⟨g6, 0, none⟩) 2 2, .slice A3 xs.length c3] : Value) by rw [l6, l9]; rfl)
    have hst : stCm (w.heap.size + 1) id us w6 = setAll (w.heap.size + 1) 0 [.int .i64 2, .int .i64 id, .string ⟨#[]⟩, .string ⟨#[]⟩, .slice (some ⟨g6, 0, none⟩) 2 2, .slice A3 xs.length c3] w6 := by unfold stCm; rw [l6, l9]; rfl
    have hdone := hW.store hni (x := undef)
    rw [hst] at hdone
    have hr := (hE.1.block _ hz).trans R2.out
    have f0 := (cell_of_row w6 _ 0 _ _ _ hr).trans (show _ = some (Value.int .i64 0) from rfl)
    have f1 := (cell_of_row w6 _ 1 _ _ _ hr).trans (show _ = some (Value.int .i64 0) from rfl)
    have f2 := (cell_of_row w6 _ 2 _ _ _ hr).trans (show _ = some (Value.string ⟨#[]⟩) from rfl)
    have f3 := (cell_of_row w6 _ 3 _ _ _ hr).trans (show _ = some (Value.string ⟨#[]⟩) from rfl)
    have f4 := (cell_of_row w6 _ 4 _ _ _ hr).trans (show _ = some (Value.slice none 0 0) from rfl)
    have f5 := (cell_of_row w6 _ 5 _ _ _ hr).trans (show _ = some (Value.slice none 0 0) from rfl)
    have g0 := frozen_of_row w6 _ 0 _ _ hr
    have g1 := frozen_of_row w6 _ 1 _ _ hr
    have g2 := frozen_of_row w6 _ 2 _ _ hr
    have g3 := frozen_of_row w6 _ 3 _ _ hr
    have g4 := frozen_of_row w6 _ 4 _ _ hr
    have g5 := frozen_of_row w6 _ 5 _ _ hr
    have HDN := Lib.hid hdone; clear hdone hW hni hlim hreq ho ht hst hr l6 l9 m6 m9 r6 hs9 hE
    rw [if_pos (by simp [Region.wanted])]
    unfold Oper.wp
    generalize Z.eval = ρ at *
    simp only [execOp, e2, e13]
    go_simp
    exact hK undef _ HDN.out
  -- TSAF
  · intro us w9 hmem hW
    obtain ⟨us0, W6, x0, rfl, rfl, hb, hR, hn1⟩ := hW.last (hmem 11 (by decide))
    obtain ⟨v6, l6, m6⟩ := lookup_mem (before_mid (hmem 6 (by decide)) (by decide))
    obtain ⟨v9, l9, m9⟩ := lookup_mem (before_mid (hmem 9 (by decide)) (by decide))
    obtain ⟨g6, rfl, hg6, r6⟩ := (hR 6 v6 m6).1 rfl
    obtain ⟨A3, c3, rfl, hs9⟩ := (hR 9 v9 m9).2 rfl
    have hst : stCm (w.heap.size + 1) id us0 W6 = setAll (w.heap.size + 1) 0 [.int .i64 2, .int .i64 id, .string ⟨#[]⟩, .string ⟨#[]⟩, .slice (some ⟨g6, 0, none⟩) 2 2, .slice A3 xs.length c3] W6 := by unfold stCm; rw [l6, l9]; rfl
    rw [hst]
    have hrow := setAll_6 (a := .int .i64 2) (b := .int .i64 id) (c := .string ⟨#[]⟩) (d := .string ⟨#[]⟩) (e := .slice (some ⟨g6, 0, none⟩) 2 2) (f := .slice A3 xs.length c3) ((hb.block _ hz).trans R2.out)
    have hA : Agree (fun q => q ≠ w.heap.size + 1) W6 (setAll (w.heap.size + 1) 0 [.int .i64 2, .int .i64 id, .string ⟨#[]⟩, .string ⟨#[]⟩, .slice (some ⟨g6, 0, none⟩) 2 2, .slice A3 xs.length c3] W6) := fun q hq _ => setAll_other hq _ _ _
    have hsz : W6.heap.size ≤ (setAll (w.heap.size + 1) 0 [.int .i64 2, .int .i64 id, .string ⟨#[]⟩, .string ⟨#[]⟩, .slice (some ⟨g6, 0, none⟩) 2 2, .slice A3 xs.length c3] W6).heap.size := (setAll_below (Nat.le_refl _) _ 0 W6 (Below.refl (w.heap.size + 1) W6)).size
    have hrg6 := (hA g6 (by have := hz; omega) (Array.getElem?_eq_some_iff.1 r6).1).trans r6
    have h6 := sl_ints' (xs := [ln, gn]) rfl (show 2 ≤ 9223372036854775807 by decide) (fun x hx => by simp at hx; rcases hx with rfl | rfl; exact HOK.out.2.1; exact HOK.out.2.2) hrg6
    have h9 := hs9.frame (hA.mono (fun b hb _ => by have := hz; omega)) hsz
    have hBB := setAll_below (g := w.heap.size + 1) (m := w.heap.size) (by omega) [.int .i64 2, .int .i64 id, .string ⟨#[]⟩, .string ⟨#[]⟩, .slice (some ⟨g6, 0, none⟩) 2 2, .slice A3 xs.length c3] 0 W6 (HAL.out.trans (hb.mono HAL.out.size))
    have HFIN := Lib.hid (show RetE (recordE true) w (commitR ⟨id, ln, gn, xs⟩) (.returned (.agg #[.int .i64 2, .int .i64 id, .string ⟨#[]⟩, .string ⟨#[]⟩, .slice (some ⟨g6, 0, none⟩) 2 2, .slice A3 xs.length c3])) (setAll (w.heap.size + 1) 0 [.int .i64 2, .int .i64 id, .string ⟨#[]⟩, .string ⟨#[]⟩, .slice (some ⟨g6, 0, none⟩) 2 2, .slice A3 xs.length c3] W6) from
      ⟨_, rfl, ⟨_, _, _, _, _, _, rfl, ⟨(show I64 2 by unfold I64; omega), HOK.out.1, strOk_nil, strOk_nil⟩, h6.mono (fun q hq _ => by have := hz; have : q = g6 := hq; omega), h9.mono (fun q hq _ => by have := hz; omega)⟩, hBB⟩)
    simp only [putAll, List.map_cons, List.map_nil, List.foldl_cons, List.foldl_nil, Act.put, List.setIfInBounds_toArray, List.set_cons_succ, List.set_cons_zero]
    generalize hsv : slotAt _ _ _ = sv
    clear hsv hst hb hR hn1 hW hmem l6 l9 m6 m9 r6 hs9 h6 h9 hBB hA hsz hrg6
    generalize setAll (w.heap.size + 1) 0 [.int .i64 2, .int .i64 id, .string ⟨#[]⟩, .string ⟨#[]⟩, .slice (some ⟨g6, 0, none⟩) 2 2, .slice A3 xs.length c3] W6 = w9 at *
    have p0 := cell_of_row _ _ 0 _ _ _ hrow
    have p1 := cell_of_row _ _ 1 _ _ _ hrow
    have p2 := cell_of_row _ _ 2 _ _ _ hrow
    have p3 := cell_of_row _ _ 3 _ _ _ hrow
    have p4 := cell_of_row _ _ 4 _ _ _ hrow
    have p5 := cell_of_row _ _ 5 _ _ _ hrow
    clear hrow
    go_wp2
    refine bodyPost_ret (v := .agg #[.int .i64 2, .int .i64 id, .string ⟨#[]⟩, .string ⟨#[]⟩, .slice (some ⟨g6, 0, none⟩) 2 2, .slice A3 xs.length c3]) (by simp [results, Try.results30, go_sem, *]; done) rfl ?_
    exact HFIN.out
/-- What is done ahead of what. -/
def OrdT (us : List (Nat × Value)) : Prop := (10 ∈ us.map Prod.fst → 9 ∈ us.map Prod.fst) ∧ (11 ∈ us.map Prod.fst → 10 ∈ us.map Prod.fst)
theorem OrdT.snoc8 {us : List (Nat × Value)} (h : OrdT us) {x : Value} : OrdT (us ++ [(8, x)]) := ⟨fun hm => by rw [List.map_append, List.mem_append] at *; rcases hm with hm | hm; exact .inl (h.1 hm); simp at hm, fun hm => by rw [List.map_append, List.mem_append] at *; rcases hm with hm | hm; exact .inl (h.2 hm); simp at hm⟩
theorem OrdT.snoc9 {us : List (Nat × Value)} (h : OrdT us) {x : Value} : OrdT (us ++ [(9, x)]) := ⟨fun _ => by simp, fun hm => by rw [List.map_append, List.mem_append] at *; rcases hm with hm | hm; exact .inl (h.2 hm); simp at hm⟩
theorem OrdT.snoc10 {us : List (Nat × Value)} (_h : OrdT us) {x : Value} (h9 : 9 ∈ us.map Prod.fst) : OrdT (us ++ [(10, x)]) := ⟨fun _ => by rw [List.map_append, List.mem_append]; exact .inl h9, fun _ => by simp⟩
theorem OrdT.snoc11 {us : List (Nat × Value)} (h : OrdT us) {x : Value} (h10 : 10 ∈ us.map Prod.fst) : OrdT (us ++ [(11, x)]) := ⟨fun _ => by rw [List.map_append, List.mem_append]; exact .inl (h.1 h10), fun _ => by rw [List.map_append, List.mem_append]; exact .inl h10⟩
/-- The parts of a thing's record. -/
def RTh (kd ln : Int) (dg : ByteArray) (xs : List Int) (V : World) (i : Nat) (v : Value) (W : World) : Prop :=
  (i = 8 → ∃ A c, v = .slice A xs.length c ∧ Sl true 3 intE W (fun q => V.heap.size ≤ q) A xs.length c xs) ∧
  (i = 9 → ∃ A c, v = .agg #[.int .i64 kd, .int .i64 ln, .string ⟨#[]⟩, .string dg, .slice A xs.length c, .slice none 0 0] ∧ Sl true 3 intE W (fun q => V.heap.size ≤ q) A xs.length c xs) ∧
  (i = 10 → ∃ g A c, v = .slice (some ⟨g, 0, none⟩) 1 1 ∧ V.heap.size ≤ g ∧ W.heap[g]? = some (.cells #[.int .i64 kd, .int .i64 ln, .string ⟨#[]⟩, .string dg, .slice A xs.length c, .slice none 0 0] 54 (0, 0)) ∧ Sl true 3 intE W (fun q => V.heap.size ≤ q) A xs.length c xs)
theorem RTh.all {kd ln : Int} {dg : ByteArray} {xs : List Int} {V W W' : World} (hb : Below W.heap.size W W') (j : Nat) (v : Value) (h : RTh kd ln dg xs V j v W) : RTh kd ln dg xs V j v W' :=
  ⟨fun hj => by obtain ⟨A, c, e, t⟩ := h.1 hj; exact ⟨A, c, e, t.all hb⟩, fun hj => by obtain ⟨A, c, e, t⟩ := h.2.1 hj; exact ⟨A, c, e, t.all hb⟩, fun hj => by obtain ⟨g, A, c, e, hg, r, t⟩ := h.2.2 hj; exact ⟨g, A, c, e, hg, (hb.block _ (Array.getElem?_eq_some_iff.1 r).1).trans r, t.all hb⟩⟩
/-- What the append leaves. -/
def RAp (base : Nat) (A : Option Addr) (n : Nat) (l' : List Record) (v : Value) (W0 W : World) : Prop :=
  ∃ A' c', v = .slice A' (n + 1) c' ∧ Silo.Own 54 (recordE true) W base (fun q => base ≤ q) A' (n + 1) c' l' ∧ Chg (ablk A) W0 W
noncomputable def allReg18 : Code := ((Try.f15.body.bind (seekRegion 18)).getD .skip)
set_option maxRecDepth 100000 in
set_option maxHeartbeats 8000000 in
theorem all18 {Q : Exit → Act → World → Prop} {σ : Act} {w : World} {base g8 : Nat} {A A3 : Option Addr} {n c n3 c3 : Nat} {kd ln : Int} {dg : ByteArray} {man : Bool} {xs : List Int} {l : List Record} (HO : Hid (Silo.Own 54 (recordE true) w base (fun q => base ≤ q) A n c l)) (hbs : base ≤ w.heap.size) (hn : n ≤ 1000000) (R8 : Hid (w.heap[g8]? = some (.cells #[.string dg, .int .i64 ln, .bool man, .slice A3 n3 c3] 71 (0, 0)))) (hg8 : some g8 ≠ ablk A) (HK : Hid (I64 kd ∧ I64 ln ∧ StrOk dg)) (HCL : Hid (∀ V, Below w.heap.size w V → Calls Try.prog 31 #[.slice A3 n3 c3] V (RetOwn 3 intE V xs))) (hσ : σ.tmps.size = 90) (s2 : σ.eval (.tmp 2) = .slice A n c) (s9 : σ.eval (.tmp 9) = .int .i64 kd) (s8 : σ.eval (.tmp 8) = .pointer (some ⟨g8, 0, none⟩))
    (hend : ∀ (v : Nat → Value) (wz : World) (A' : Option Addr) (c' : Nat), v 2 = .slice A' (n + 1) c' → Silo.Own 54 (recordE true) wz base (fun q => base ≤ q) A' (n + 1) c' (l ++ [(⟨kd, ln, ⟨#[]⟩, dg, xs, []⟩ : Record)]) → Chg (ablk A) w wz → Q .normal (putAll σ (([60, 61, 62, 63, 64, 65, 66, 67, 68, 69, 70, 71, 2] : List Nat).map fun d => (d, v d))) wz) :
    allReg18.wp Try.prog Q σ w := by
  obtain ⟨i0, hii, hz0, hz1, hz2⟩ := info_parts Try.info_Record
  conv => arg 2; whnf
  refine region_old (by kernel_rfl) (by kernel_rfl) 90 hσ [60, 61, 62, 63, 64, 65, 66, 67, 68, 69, 70, 71, 2] [8, 9, 10, 11] [(68, 8), (69, 9), (70, 10), (71, 11)]
    [(60, [], fun _ => .slice A n c), (61, [], fun _ => .int .i64 kd), (62, [], fun _ => .pointer (some ⟨g8, 0, none⟩)), (63, [], fun _ => .string dg), (64, [], fun _ => .pointer (some ⟨g8, 1, none⟩)), (65, [], fun _ => .int .i64 ln), (66, [], fun _ => .pointer (some ⟨g8, 3, none⟩)), (67, [], fun _ => .slice A3 n3 c3), (2, [11], fun l => l.getD 0 undef)]
    [[], [], [], [], [], [], [], [], [11], [], [11]] [[], [], [], [], [], [], [], [], [], [8], [9], [10]] [[], [], [], [62], [], [64], [], [66], [67], [61, 63, 65, 68], [69], [60, 70], [71]] [[2]]
    ((fun us W => WdD w (RTh kd ln dg xs w) 11 (RAp base A n (l ++ [(⟨kd, ln, ⟨#[]⟩, dg, xs, []⟩ : Record)])) us W ∧ OrdT us)) (by kernel_rfl) ⟨.init, ⟨by simp, by simp⟩⟩ ⟨?_, ?_, ?_, ?_, ?_, ?_, ?_, ?_, ?_, ?_, ?_, ?_, ?_, trivial⟩ ?_
  -- FAST13 cdot
  · (refine OpH.rd rfl rfl (fun ρ us w6 ho ht hc hl hsrc hW => ?_); have e2 := (ho 2 rfl).trans (show _ = (.slice A n c : Value) from s2); clear ht ho; simp only [execOp, e2]; go_simp; try rfl)
  · (refine OpH.rd rfl rfl (fun ρ us w6 ho ht hc hl hsrc hW => ?_); have e9 := (ho 9 rfl).trans (show _ = (.int .i64 kd : Value) from s9); clear ht ho; simp only [execOp, e9]; go_simp; try rfl)
  · (refine OpH.rd rfl rfl (fun ρ us w6 ho ht hc hl hsrc hW => ?_); have e8 := (ho 8 rfl).trans (show _ = (.pointer (some ⟨g8, 0, none⟩) : Value) from s8); clear ht ho; simp only [execOp, e8]; go_simp; try rfl)
  · (refine OpH.rd rfl rfl (fun ρ us w6 ho ht hc hl hsrc hW => ?_); have e62 := (ht 62 (by decide)).trans (show _ = (.pointer (some ⟨g8, 0, none⟩) : Value) from rfl); have r1 := (hW.1.kept (fun _ _ _ h => by obtain ⟨_, _, _, _, hc⟩ := h; exact hc) (Array.getElem?_eq_some_iff.1 R8.out).1 hg8).trans R8.out; have y0 := cell_of_row _ _ 0 _ _ _ r1; have y1 := cell_of_row _ _ 1 _ _ _ r1; have y2 := cell_of_row _ _ 2 _ _ _ r1; have y3 := cell_of_row _ _ 3 _ _ _ r1; clear r1; clear ht ho; simp only [execOp, e62]; go_simp; try rfl)
  · (refine OpH.rd rfl rfl (fun ρ us w6 ho ht hc hl hsrc hW => ?_); have e8 := (ho 8 rfl).trans (show _ = (.pointer (some ⟨g8, 0, none⟩) : Value) from s8); clear ht ho; simp only [execOp, e8]; go_simp; try rfl)
  · (refine OpH.rd rfl rfl (fun ρ us w6 ho ht hc hl hsrc hW => ?_); have e64 := (ht 64 (by decide)).trans (show _ = (.pointer (some ⟨g8, 1, none⟩) : Value) from rfl); have r1 := (hW.1.kept (fun _ _ _ h => by obtain ⟨_, _, _, _, hc⟩ := h; exact hc) (Array.getElem?_eq_some_iff.1 R8.out).1 hg8).trans R8.out; have y0 := cell_of_row _ _ 0 _ _ _ r1; have y1 := cell_of_row _ _ 1 _ _ _ r1; have y2 := cell_of_row _ _ 2 _ _ _ r1; have y3 := cell_of_row _ _ 3 _ _ _ r1; clear r1; clear ht ho; simp only [execOp, e64]; go_simp; try rfl)
  · (refine OpH.rd rfl rfl (fun ρ us w6 ho ht hc hl hsrc hW => ?_); have e8 := (ho 8 rfl).trans (show _ = (.pointer (some ⟨g8, 0, none⟩) : Value) from s8); clear ht ho; simp only [execOp, e8]; go_simp; try rfl)
  · (refine OpH.rd rfl rfl (fun ρ us w6 ho ht hc hl hsrc hW => ?_); have e66 := (ht 66 (by decide)).trans (show _ = (.pointer (some ⟨g8, 3, none⟩) : Value) from rfl); have r1 := (hW.1.kept (fun _ _ _ h => by obtain ⟨_, _, _, _, hc⟩ := h; exact hc) (Array.getElem?_eq_some_iff.1 R8.out).1 hg8).trans R8.out; have y0 := cell_of_row _ _ 0 _ _ _ r1; have y1 := cell_of_row _ _ 1 _ _ _ r1; have y2 := cell_of_row _ _ 2 _ _ _ r1; have y3 := cell_of_row _ _ 3 _ _ _ r1; clear r1; clear ht ho; simp only [execOp, e66]; go_simp; try rfl)
  · refine OpH.wr rfl (fun Z us w6 ho ht hni hlim hreq hW K hK => ?_)
    obtain ⟨hW, hO⟩ := hW
    have e67 := (ht 67 (by decide)).trans (show _ = (.slice A3 n3 c3 : Value) from rfl)
    have hn := hlim 11 (by decide)
    have hb6 := (hW.early hn).1
    have hcl := HCL.out w6 hb6
    refine step_call rfl 31 #[.tmp 67] #[44] rfl Try.func31 (by kernel_rfl) (by kernel_rfl) #[.slice A3 n3 c3] (by simp [e67]; try first | done | rfl | exact ⟨rfl, rfl⟩) (hcl) ?_
    rintro e w7 ⟨A4, c4, rfl, hown, hb7⟩
    exact ⟨_, rfl, hK _ _ (And.intro (hW.snoc (by decide) hn hb7 (fun j v h => RTh.all hb7 j v h) ⟨fun _ => ⟨A4, c4, rfl, (hown.sl (tg := true)).mono (fun q hq _ => Nat.le_trans hb6.size (hq.elim (fun h => h) (fun h => h)))⟩, fun h => absurd h (by decide), fun h => absurd h (by decide)⟩) hO.snoc8)⟩
  · refine OpH.wr rfl (fun Z us w6 ho ht hni hlim hreq hW K hK => ?_)
    obtain ⟨hW, hO⟩ := hW
    obtain ⟨v8, l8, m8⟩ := lookup_mem (hreq 8 (by decide))
    have hn := (fun h => hni (hO.1 (hO.2 h)) : 11 ∉ us.map Prod.fst)
    have hE := hW.early hn
    obtain ⟨A4, c4, rfl, hs8⟩ := (hE.2 8 v8 m8).1 rfl
    have e61 := (ht 61 (by decide)).trans (show _ = (.int .i64 kd : Value) from rfl)
    have e63 := (ht 63 (by decide)).trans (show _ = (.string dg : Value) from rfl)
    have e65 := (ht 65 (by decide)).trans (show _ = (.int .i64 ln : Value) from rfl)
    have e68 := ((ht 68 (by decide)).trans (show _ = (us.lookup 8).getD undef from rfl)).trans (show _ = (.slice A4 xs.length c4 : Value) by rw [l8]; rfl)
    have hdone := hW.snoc (i := 9) (x := .agg #[.int .i64 kd, .int .i64 ln, .string ⟨#[]⟩, .string dg, .slice A4 xs.length c4, .slice none 0 0]) (by decide) hn (Below.refl _ _) (fun j v h => h) ⟨fun h => absurd h (by decide), fun _ => ⟨A4, c4, rfl, hs8⟩, fun h => absurd h (by decide)⟩
    have HDN := Lib.hid (And.intro hdone (hO.snoc9 (x := .agg #[.int .i64 kd, .int .i64 ln, .string ⟨#[]⟩, .string dg, .slice A4 xs.length c4, .slice none 0 0]))); clear hdone hW hO hni hlim hreq ho ht hn hE hs8 l8 m8
    rw [if_pos (by simp [Region.wanted])]
    unfold Oper.wp
    generalize Z.eval = ρ at *
    simp only [execOp, List.map_toArray, List.map_cons, List.map_nil, e61, e63, e65, e68]
    go_simp
    exact hK _ _ HDN.out
  · refine OpH.wr rfl (fun Z us w6 ho ht hni hlim hreq hW K hK => ?_)
    obtain ⟨hW, hO⟩ := hW
    have hn := hlim 11 (by decide)
    have hE := hW.early hn
    obtain ⟨v9, l9, m9⟩ := lookup_mem (hreq 9 (by decide))
    obtain ⟨A4, c4, rfl, hs8⟩ := (hE.2 9 v9 m9).2.1 rfl
    have e69 := ((ht 69 (by decide)).trans (show _ = (us.lookup 9).getD undef from rfl)).trans (show _ = (.agg #[.int .i64 kd, .int .i64 ln, .string ⟨#[]⟩, .string dg, .slice A4 xs.length c4, .slice none 0 0] : Value) by rw [l9]; rfl)
    have hal : Below w6.heap.size w6 (w6.alloc (.cells #[.int .i64 kd, .int .i64 ln, .string ⟨#[]⟩, .string dg, .slice A4 xs.length c4, .slice none 0 0] 54)) := (Below.refl _ _).alloc (Nat.le_refl _) _
    have hdone := hW.snoc (i := 10) (x := .slice (some ⟨w6.heap.size, 0, none⟩) 1 1) (by decide) hn hal (fun j v h => RTh.all hal j v h) ⟨fun h => absurd h (by decide), fun h => absurd h (by decide), fun _ => ⟨_, A4, c4, rfl, hE.1.size, heap_alloc_new _ _, hs8.all hal⟩⟩
    have HDN := Lib.hid (And.intro hdone (hO.snoc10 (x := .slice (some ⟨w6.heap.size, 0, none⟩) 1 1) (hreq 9 (by decide)))); clear hdone hW hO hni hlim hreq ho ht hn hE hs8 hal l9 m9
    rw [if_pos (by simp [Region.wanted])]
    unfold Oper.wp
    generalize Z.eval = ρ at *
    simp only [execOp, List.map_toArray, List.map_cons, List.map_nil, e69]
    go_simp
    exact hK _ _ HDN.out
  · refine OpH.wr rfl (fun Z us w6 ho ht hni hlim hreq hW K hK => ?_)
    obtain ⟨hW, hO⟩ := hW
    have hE := hW.early hni
    obtain ⟨v10, l10, m10⟩ := lookup_mem (hreq 10 (by decide))
    obtain ⟨g, A4, c4, rfl, hg, hrow, hs⟩ := (hE.2 10 v10 m10).2.2 rfl
    have e60 := (ht 60 (by decide)).trans (show _ = (.slice A n c : Value) from rfl)
    have e70 := ((ht 70 (by decide)).trans (show _ = (us.lookup 10).getD undef from rfl)).trans (show _ = (.slice (some ⟨g, 0, none⟩) 1 1 : Value) by rw [l10]; rfl)
    have hlt := HO.out.lt
    rw [if_pos (by simp [Region.wanted])]
    refine wp_append1 (.tmp 60) (.tmp 70) 29 rfl i0 (.agg #[.int .i64 0, .int .i64 0, .string ByteArray.empty, .string ByteArray.empty, .slice none 0 0, .slice none 0 0]) 96 Try.underlying29 hii hz0 hz1 hz2 rfl (show 0 < 6 by decide) e60 (HO.out.all hE.1) g 54 1 [.int .i64 kd, .int .i64 ln, .string ⟨#[]⟩, .string dg, .slice A4 xs.length c4, .slice none 0 0] (⟨kd, ln, ⟨#[]⟩, dg, xs, []⟩ : Record) e70 hrow ⟨_, _, _, _, _, _, rfl, ⟨HK.out.1, HK.out.2.1, strOk_nil, HK.out.2.2⟩, hs.mono (fun q hq _ => ⟨Nat.le_trans hbs hq, fun e => by have := (hlt q e.symm).2; omega⟩), Sl.nil_ (by omega)⟩ (by omega) (by omega) (Nat.le_trans hbs hE.1.size) ?_
    intro A' c' w7 hown hgr _
    exact hK _ _ (And.intro (hW.call hni ⟨A', c', rfl, hown, Chg.of_grown hgr⟩) (hO.snoc11 (hreq 10 (by decide))))
  · (refine OpH.rd rfl rfl (fun ρ us w6 ho ht hc hl hsrc hW => ?_); have e71 := (ht 71 (by decide)).trans (show _ = ((us.lookup 11).getD undef : Value) from rfl); clear ht ho; simp only [execOp, e71]; go_simp; try rfl)
  -- TSAF
  · intro us wz hmem hW
    obtain ⟨us0, W0, v, rfl, hb0, ⟨A', c', rfl, hown, hchg⟩, hn1⟩ := hW.1.last (hmem 11 (by decide))
    refine hend _ wz A' c' ?_ hown ((Chg.of_below hb0).trans hchg)
    show ((us0 ++ [(11, Value.slice A' (n + 1) c')]).lookup 11).getD undef = _
    rw [lookup_snoc_new hn1]; rfl
end Go.Proofs.Ytipecejghioicaa
