/- What a stripe lacks, and where that may lie: the page's answer (siloref16.Needs) is the program's. Printed by gen_e9.py. -/
import Derived.Test.YtfccghfcilccfaaE4
import Derived.Test.YtfccghfcilccfaaA7
import Derived.Deep.Cut
namespace Go.Proofs.Ytfccghfcilccfaa
open Go.RowKit Go.Silo

theorem bad_not (x : Stripe) (good : List Bool) : ∀ k, (badN good k).length + (notN x good k).length = k
  | 0 => rfl
  | k + 1 => by
    have h := bad_not x good k
    rw [badN_succ, notN_succ, List.length_append, List.length_append]
    cases good.getD k false <;> simp <;> omega

/-- The five boxes. -/
structure NE (w : World) (vx vy : List Value) (u0 u1 u2 v0 v1 n0 n1 n2 : Value) (V : World) : Prop where
  b0 : V.heap[w.heap.size]? = some (.cells vx.toArray 79 (0, 0))
  b1 : V.heap[w.heap.size + 1]? = some (.cells vy.toArray 62 (0, 0))
  b2 : V.heap[w.heap.size + 2]? = some (.cells #[u0, u1, u2] 88 (0, 0))
  b3 : V.heap[w.heap.size + 3]? = some (.cells #[v0, v1] 62 (0, 0))
  b4 : V.heap[w.heap.size + 4]? = some (.cells #[n0, n1, n2] 88 (0, 0))
  below : Below w.heap.size w V
section
variable {w : World} {vx vy : List Value} {u0 u1 u2 v0 v1 n0 n1 n2 p q r : Value} {V V' : World}
theorem NE.hi (h : NE w vx vy u0 u1 u2 v0 v1 n0 n1 n2 V) : w.heap.size + 4 < V.heap.size := (Array.getElem?_eq_some_iff.1 h.b4).1
theorem NE.frame (h : NE w vx vy u0 u1 u2 v0 v1 n0 n1 n2 V) (hb : ∀ b, b ≤ w.heap.size + 4 → V'.heap[b]? = V.heap[b]?) (hB : Below w.heap.size w V') : NE w vx vy u0 u1 u2 v0 v1 n0 n1 n2 V' :=
  ⟨(hb _ (by omega)).trans h.b0, (hb _ (by omega)).trans h.b1, (hb _ (by omega)).trans h.b2, (hb _ (by omega)).trans h.b3, (hb _ (by omega)).trans h.b4, hB⟩
theorem NE.all (h : NE w vx vy u0 u1 u2 v0 v1 n0 n1 n2 V) (hb : Below V.heap.size V V') : NE w vx vy u0 u1 u2 v0 v1 n0 n1 n2 V' :=
  h.frame (fun b hb' => hb.block b (by have := h.hi; omega)) (h.below.trans (hb.mono (by have := h.hi; omega)))
theorem NE.grown {row : Option Nat} (h : NE w vx vy u0 u1 u2 v0 v1 n0 n1 n2 V) (hg : V.grownBy V' row) (hr : ∀ r, row = some r → w.heap.size + 5 ≤ r) : NE w vx vy u0 u1 u2 v0 v1 n0 n1 n2 V' :=
  h.frame (fun b hb => hg.block b (by have := h.hi; omega) (fun e => by have := hr b e.symm; omega)) (h.below.grown hg (by have := h.hi; omega) (fun r hr' => by have := hr r hr'; omega))
theorem row_mid {w : World} {g : Nat} {a b c z : Value} {T : TypeId} (h : w.heap[g]? = some (.cells #[a, b, c] T (0, 0))) : (w.setCell ⟨g, 1, none⟩ z).heap[g]? = some (.cells #[a, z, c] T (0, 0)) := by
  simp [World.setCell, Array.getElem?_modify, h]
theorem NE.mid (h : NE w vx vy u0 u1 u2 v0 v1 n0 n1 n2 V) : NE w vx vy u0 u1 u2 v0 v1 n0 r n2 (V.setCell ⟨w.heap.size + 4, 1, none⟩ r) := by
  have hb : ∀ b, b ≠ w.heap.size + 4 → (V.setCell ⟨w.heap.size + 4, 1, none⟩ r).heap[b]? = V.heap[b]? := fun b hb => by rw [Below.heap_setCell _ _ _ _ hb]
  exact ⟨(hb _ (by omega)).trans h.b0, (hb _ (by omega)).trans h.b1, (hb _ (by omega)).trans h.b2, (hb _ (by omega)).trans h.b3, row_mid h.b4, h.below.setCell (by show w.heap.size ≤ w.heap.size + 4; omega) _⟩
theorem NE.last (h : NE w vx vy u0 u1 u2 v0 v1 n0 n1 n2 V) : NE w vx vy u0 u1 u2 v0 v1 n0 n1 r (V.setCell ⟨w.heap.size + 4, 2, none⟩ r) := by
  have hb : ∀ b, b ≠ w.heap.size + 4 → (V.setCell ⟨w.heap.size + 4, 2, none⟩ r).heap[b]? = V.heap[b]? := fun b hb => by rw [Below.heap_setCell _ _ _ _ hb]
  exact ⟨(hb _ (by omega)).trans h.b0, (hb _ (by omega)).trans h.b1, (hb _ (by omega)).trans h.b2, (hb _ (by omega)).trans h.b3, row_last h.b4, h.below.setCell (by show w.heap.size ≤ w.heap.size + 4; omega) _⟩
theorem NE.st2 (h : NE w vx vy u0 u1 u2 v0 v1 n0 n1 n2 V) : NE w vx vy p q r v0 v1 n0 n1 n2 (((V.setCell ⟨w.heap.size + 2, 0, none⟩ p).setCell ⟨w.heap.size + 2, 1, none⟩ q).setCell ⟨w.heap.size + 2, 2, none⟩ r) := by
  have hb : ∀ b, b ≠ w.heap.size + 2 → (((V.setCell ⟨w.heap.size + 2, 0, none⟩ p).setCell ⟨w.heap.size + 2, 1, none⟩ q).setCell ⟨w.heap.size + 2, 2, none⟩ r).heap[b]? = V.heap[b]? := fun b hb => by rw [Below.heap_setCell _ _ _ _ hb, Below.heap_setCell _ _ _ _ hb, Below.heap_setCell _ _ _ _ hb]
  exact ⟨(hb _ (by omega)).trans h.b0, (hb _ (by omega)).trans h.b1, row_set3 h.b2, (hb _ (by omega)).trans h.b3, (hb _ (by omega)).trans h.b4, ((h.below.setCell (by show w.heap.size ≤ w.heap.size + 2; omega) _).setCell (by show w.heap.size ≤ w.heap.size + 2; omega) _).setCell (by show w.heap.size ≤ w.heap.size + 2; omega) _⟩
theorem NE.st3 (h : NE w vx vy u0 u1 u2 v0 v1 n0 n1 n2 V) : NE w vx vy u0 u1 u2 p q n0 n1 n2 ((V.setCell ⟨w.heap.size + 3, 0, none⟩ p).setCell ⟨w.heap.size + 3, 1, none⟩ q) := by
  have hb : ∀ b, b ≠ w.heap.size + 3 → ((V.setCell ⟨w.heap.size + 3, 0, none⟩ p).setCell ⟨w.heap.size + 3, 1, none⟩ q).heap[b]? = V.heap[b]? := fun b hb => by rw [Below.heap_setCell _ _ _ _ hb, Below.heap_setCell _ _ _ _ hb]
  exact ⟨(hb _ (by omega)).trans h.b0, (hb _ (by omega)).trans h.b1, (hb _ (by omega)).trans h.b2, row_set2 h.b3, (hb _ (by omega)).trans h.b4, (h.below.setCell (by show w.heap.size ≤ w.heap.size + 3; omega) _).setCell (by show w.heap.size ≤ w.heap.size + 3; omega) _⟩
theorem NE.c2 (h : NE w vx vy u0 u1 u2 v0 v1 n0 n1 n2 V) : V.cell? ⟨w.heap.size + 2, 0, none⟩ = some u0 ∧ V.cell? ⟨w.heap.size + 2, 1, none⟩ = some u1 ∧ V.cell? ⟨w.heap.size + 2, 2, none⟩ = some u2 ∧ V.frozen? ⟨w.heap.size + 2, 0, none⟩ = false ∧ V.frozen? ⟨w.heap.size + 2, 1, none⟩ = false ∧ V.frozen? ⟨w.heap.size + 2, 2, none⟩ = false :=
  ⟨cell_of_row V _ 0 _ _ _ h.b2, cell_of_row V _ 1 _ _ _ h.b2, cell_of_row V _ 2 _ _ _ h.b2, frozen_of_row V _ 0 _ _ h.b2, frozen_of_row V _ 1 _ _ h.b2, frozen_of_row V _ 2 _ _ h.b2⟩
theorem NE.c3 (h : NE w vx vy u0 u1 u2 v0 v1 n0 n1 n2 V) : V.cell? ⟨w.heap.size + 3, 0, none⟩ = some v0 ∧ V.cell? ⟨w.heap.size + 3, 1, none⟩ = some v1 ∧ V.frozen? ⟨w.heap.size + 3, 0, none⟩ = false ∧ V.frozen? ⟨w.heap.size + 3, 1, none⟩ = false :=
  ⟨cell_of_row V _ 0 _ _ _ h.b3, cell_of_row V _ 1 _ _ _ h.b3, frozen_of_row V _ 0 _ _ h.b3, frozen_of_row V _ 1 _ _ h.b3⟩
theorem NE.c4 (h : NE w vx vy u0 u1 u2 v0 v1 n0 n1 n2 V) : V.cell? ⟨w.heap.size + 4, 0, none⟩ = some n0 ∧ V.cell? ⟨w.heap.size + 4, 1, none⟩ = some n1 ∧ V.cell? ⟨w.heap.size + 4, 2, none⟩ = some n2 ∧ V.frozen? ⟨w.heap.size + 4, 1, none⟩ = false ∧ V.frozen? ⟨w.heap.size + 4, 2, none⟩ = false :=
  ⟨cell_of_row V _ 0 _ _ _ h.b4, cell_of_row V _ 1 _ _ _ h.b4, cell_of_row V _ 2 _ _ _ h.b4, frozen_of_row V _ 1 _ _ h.b4, frozen_of_row V _ 2 _ _ h.b4⟩
end
theorem NL.set {w V : World} {good : List Bool} {x : Stripe} {k c d : Nat} {A B : Option Addr} (h : NL w good x k A c B d V) {p : Addr} (hp : p.block < w.heap.size + 5) (v : Value) : NL w good x k A c B d (V.setCell p v) :=
  ⟨h.a.frame (Agree.setCell (fun hh => by rcases hh with hh | hh; exact hh; have := (h.a.lt _ hh.symm).1; omega) _) (by simp), h.b.frame (Agree.setCell (fun hh => by rcases hh with hh | hh; exact hh; have := (h.b.lt _ hh.symm).1; omega) _) (by simp), h.ne⟩

/-- The worlds between the steps of 'return n, CopySlots(y), OK'. -/
inductive WdCp (V : World) (y : SlotsD) (g2 g3 : Nat) (p q r : Value) : List (Nat × Value) → World → Prop
  | n0 {W : World} : Below V.heap.size V W → WdCp V y g2 g3 p q r [] W
  | nc {W : World} {A0 A1 : Option Addr} {n0 c0 n1 c1 : Nat} : Below V.heap.size V W → Sl true 4 boolE W (fun b => V.heap.size ≤ b) A0 n0 c0 y.live → Sl true 52 (slE true 3 intE) W (fun b => V.heap.size ≤ b) A1 n1 c1 y.free → WdCp V y g2 g3 p q r [(2, .agg #[.slice A0 n0 c0, .slice A1 n1 c1])] W
  | st {W : World} {A0 A1 : Option Addr} {n0 c0 n1 c1 : Nat} {x : Value} : Below V.heap.size V W → Sl true 4 boolE W (fun b => V.heap.size ≤ b) A0 n0 c0 y.live → Sl true 52 (slE true 3 intE) W (fun b => V.heap.size ≤ b) A1 n1 c1 y.free →
      WdCp V y g2 g3 p q r [(2, .agg #[.slice A0 n0 c0, .slice A1 n1 c1]), (3, x)] (((W.setCell ⟨g2, 0, none⟩ p).setCell ⟨g2, 1, none⟩ q).setCell ⟨g2, 2, none⟩ r)
  | done {W : World} {A0 A1 : Option Addr} {n0 c0 n1 c1 : Nat} {x x' : Value} : Below V.heap.size V W → Sl true 4 boolE W (fun b => V.heap.size ≤ b) A0 n0 c0 y.live → Sl true 52 (slE true 3 intE) W (fun b => V.heap.size ≤ b) A1 n1 c1 y.free →
      WdCp V y g2 g3 p q r [(2, .agg #[.slice A0 n0 c0, .slice A1 n1 c1]), (3, x), (4, x')] (((((W.setCell ⟨g2, 0, none⟩ p).setCell ⟨g2, 1, none⟩ q).setCell ⟨g2, 2, none⟩ r).setCell ⟨g3, 0, none⟩ (.slice A0 n0 c0)).setCell ⟨g3, 1, none⟩ (.slice A1 n1 c1))
theorem WdCp.below {V W : World} {y : SlotsD} {g2 g3 : Nat} {p q r : Value} {us : List (Nat × Value)} (h : WdCp V y g2 g3 p q r us W) (hn : 3 ∉ us.map Prod.fst) : Below V.heap.size V W := by
  cases h with
  | n0 h => exact h
  | nc h _ _ => exact h
  | st _ _ _ => exact absurd (by simp) hn
  | done _ _ _ => exact absurd (by simp) hn
theorem WdCp.early {V W : World} {y : SlotsD} {g2 g3 : Nat} {p q r : Value} {us : List (Nat × Value)} (h : WdCp V y g2 g3 p q r us W) (hn : 2 ∉ us.map Prod.fst) : Below V.heap.size V W := by
  cases h with
  | n0 h => exact h
  | nc h _ _ => exact h
  | st _ _ _ => exact absurd (by simp) hn
  | done _ _ _ => exact absurd (by simp) hn
/-- The worlds between the steps of 'return n, w, OK'. -/
inductive WdSt (V : World) (g2 g3 : Nat) (p q r a b : Value) : List (Nat × Value) → World → Prop
  | n0 {W : World} : Below V.heap.size V W → WdSt V g2 g3 p q r a b [] W
  | st {W : World} {x : Value} : Below V.heap.size V W → WdSt V g2 g3 p q r a b [(2, x)] (((W.setCell ⟨g2, 0, none⟩ p).setCell ⟨g2, 1, none⟩ q).setCell ⟨g2, 2, none⟩ r)
  | done {W : World} {x x' : Value} : Below V.heap.size V W → WdSt V g2 g3 p q r a b [(2, x), (3, x')] (((((W.setCell ⟨g2, 0, none⟩ p).setCell ⟨g2, 1, none⟩ q).setCell ⟨g2, 2, none⟩ r).setCell ⟨g3, 0, none⟩ a).setCell ⟨g3, 1, none⟩ b)
theorem WdSt.early {V W : World} {g2 g3 : Nat} {p q r a b : Value} {us : List (Nat × Value)} (h : WdSt V g2 g3 p q r a b us W) (hn : 2 ∉ us.map Prod.fst) : Below V.heap.size V W := by
  cases h with
  | n0 h => exact h
  | st _ => exact absurd (by simp) hn
  | done _ => exact absurd (by simp) hn

theorem WdSt.keep {V W : World} {g2 g3 : Nat} {p q r a b : Value} {us : List (Nat × Value)} (h : WdSt V g2 g3 p q r a b us W) (hn : 3 ∉ us.map Prod.fst) {k : Nat} (hk : k < V.heap.size) (hne : k ≠ g2) : W.heap[k]? = V.heap[k]? := by
  cases h with
  | n0 h => exact h.block k hk
  | st h => rw [Below.heap_setCell _ _ _ _ hne, Below.heap_setCell _ _ _ _ hne, Below.heap_setCell _ _ _ _ hne]; exact h.block k hk
  | done _ => exact absurd (by simp) hn

set_option maxRecDepth 100000 in
set_option maxHeartbeats 16000000 in
theorem refNeeds_c {tg tg1 tg2 : Bool} {S S1 S2 : Nat → Prop} {w : World} {Ap A0 A1 Ag : Option Addr} {np cp n0 c0 n1 c1 ng cg : Nat} {s : Shape} {x : Stripe} {y : SlotsD} {good : List Bool}
    (hyo : SlotsOk y) (hgp : ng ≤ np) (hK : (ng : Int) ≤ s.K + 12) (hng : ng ≤ 100) (hp : Sl tg 104 slotE w S Ap np cp x.place)
    (h0 : Sl tg1 4 boolE w S1 A0 n0 c0 y.live) (h1 : Sl tg1 52 (slE tg1 3 intE) w S1 A1 n1 c1 y.free) (hg : Sl tg2 4 boolE w S2 Ag ng cg good) :
    Calls Try.prog 52 #[.agg #[.int .i64 x.id, .int .i64 x.len, .int .i64 x.gen, .slice Ap np cp], .agg #[.slice A0 n0 c0, .slice A1 n1 c1], .slice Ag ng cg, .int .i64 s.K] w (RetNSE w (needX s x y good)) := by
  obtain ⟨i0, hi0, hz0, hz1, hz2⟩ := info_parts Try.info_Int
  have HL0 := Lib.hid h0.len
  have HL1 := Lib.hid h1.len
  have HLG := Lib.hid hg.len
  have hcg : ng ≤ 9223372036854775807 := by omega
  have HG := Lib.hid (fun W (hW : Below w.heap.size w W) => hg.all hW)
  have HP := Lib.hid (fun W (hW : Below w.heap.size w W) => hp.all hW)
  have HCP : Hid (∀ W, Below w.heap.size w W → Calls Try.prog 48 #[.agg #[.slice A0 n0 c0, .slice A1 n1 c1]] W (RetE (slotsDE true) W y)) := Lib.hid (fun W hW => by
    have h2 := hyo.most
    have h3 := hyo.same
    have e0 := HL0.out
    have e1 := HL1.out
    exact CopySlots_c (h0.all hW) (h1.all hW) (by omega) (by omega) (fun l hl => by have := pigeon (hyo.free l hl); omega))
  have HTK : Hid (∀ W n (tg3 : Bool) S3 A2 n2 c2 not, Below w.heap.size w W → 1 ≤ n → n ≤ 12 → n2 ≤ 10000000 → Sl tg3 3 intE W S3 A2 n2 c2 not → Calls Try.prog 111 #[.agg #[.slice A0 n0 c0, .slice A1 n1 c1], .int .i64 ((n : Nat) : Int), .slice A2 n2 c2] W (RetLSE W (refTakeR y n not))) := Lib.hid (fun W n tg3 S3 A2 n2 c2 not hW hn1 hn2 hn3 h2 =>
    refTake_c hyo hn1 hn2 hn3 (h0.all hW) (h1.all hW) h2)
  have hnx : needX s x y good = if ((notN x good ng).length : Int) < s.K then (noNeed, ⟨[], []⟩, 8)
      else if (badN good ng).length = 0 then (⟨x.id, [], []⟩, y, 0)
      else if takeErr y (badN good ng).length (notN x good ng) = 0 then (⟨x.id, badN good ng, takeL y (badN good ng).length (notN x good ng)⟩, takeX y (badN good ng).length (notN x good ng), 0)
      else (noNeed, ⟨[], []⟩, takeErr y (badN good ng).length (notN x good ng)) := by unfold needX; rw [HLG.out]
  have HNX := Lib.hid hnx; clear hnx
  generalize needX s x y good = R at *
  clear h0 h1 hg hp hyo
  generalize hvx : ([.int .i64 x.id, .int .i64 x.len, .int .i64 x.gen, .slice Ap np cp] : List Value) = vx
  generalize hvy : ([.slice A0 n0 c0, .slice A1 n1 c1] : List Value) = vy
  have hNE : NE w vx vy (.int .i64 0) (.slice none 0 0) (.slice none 0 0) (.slice none 0 0) (.slice none 0 0) (.int .i64 x.id) (.slice none 0 0) (.slice none 0 0) (((((w.alloc (.cells vx.toArray 79)).alloc (.cells vy.toArray 62)).alloc (.cells #[.int .i64 0, .slice none 0 0, .slice none 0 0] 88)).alloc (.cells #[.slice none 0 0, .slice none 0 0] 62)).alloc (.cells #[.int .i64 x.id, .slice none 0 0, .slice none 0 0] 88)) := by
    refine ⟨?_, ?_, ?_, ?_, ?_, (by repeat' (first | (with_reducible exact Below.refl _ _) | (with_reducible refine Below.alloc ?_ ?_ _) | (with_reducible refine Below.drew ?_) | (with_reducible refine below_drewN ?_ _) | (with_reducible refine Below.setCell ?_ ?_ _) | (refine via ?_ (by with_reducible assumption) ?_) | (refine via ?_ (below_ext _ _) ?_) | go_size))⟩
    · rw [Below.heap_alloc _ _ _ (by first | (simp; done) | (simp; omega)), Below.heap_alloc _ _ _ (by first | (simp; done) | (simp; omega)), Below.heap_alloc _ _ _ (by first | (simp; done) | (simp; omega)), Below.heap_alloc _ _ _ (by first | (simp; done) | (simp; omega))]; exact heap_alloc_new _ _
    · rw [Below.heap_alloc _ _ _ (by first | (simp; done) | (simp; omega)), Below.heap_alloc _ _ _ (by first | (simp; done) | (simp; omega)), Below.heap_alloc _ _ _ (by first | (simp; done) | (simp; omega))]
      have := heap_alloc_new (w.alloc (.cells vx.toArray 79)) (.cells vy.toArray 62)
      rw [World.size_alloc] at this; exact this
    · rw [Below.heap_alloc _ _ _ (by first | (simp; done) | (simp; omega)), Below.heap_alloc _ _ _ (by first | (simp; done) | (simp; omega))]
      have := heap_alloc_new ((w.alloc (.cells vx.toArray 79)).alloc (.cells vy.toArray 62)) (.cells #[.int .i64 0, .slice none 0 0, .slice none 0 0] 88)
      rw [World.size_alloc, World.size_alloc] at this; exact this
    · rw [Below.heap_alloc _ _ _ (by first | (simp; done) | (simp; omega))]
      have := heap_alloc_new (((w.alloc (.cells vx.toArray 79)).alloc (.cells vy.toArray 62)).alloc (.cells #[.int .i64 0, .slice none 0 0, .slice none 0 0] 88)) (.cells #[.slice none 0 0, .slice none 0 0] 62)
      rw [World.size_alloc, World.size_alloc, World.size_alloc] at this; exact this
    · have := heap_alloc_new ((((w.alloc (.cells vx.toArray 79)).alloc (.cells vy.toArray 62)).alloc (.cells #[.int .i64 0, .slice none 0 0, .slice none 0 0] 88)).alloc (.cells #[.slice none 0 0, .slice none 0 0] 62)) (.cells #[.int .i64 x.id, .slice none 0 0, .slice none 0 0] 88)
      rw [World.size_alloc, World.size_alloc, World.size_alloc, World.size_alloc] at this; exact this
  subst hvx hvy
  go_enter Try.func52, Try.ntmps52
  go_upto_region 2 with (fail)
  have HN0 := Lib.hid hNE; clear hNE
  generalize (((((w.alloc (.cells #[.int .i64 x.id, .int .i64 x.len, .int .i64 x.gen, .slice Ap np cp] 79)).alloc (.cells #[.slice A0 n0 c0, .slice A1 n1 c1] 62)).alloc (.cells #[.int .i64 0, .slice none 0 0, .slice none 0 0] 88)).alloc (.cells #[.slice none 0 0, .slice none 0 0] 62)).alloc (.cells #[.int .i64 x.id, .slice none 0 0, .slice none 0 0] 88)) = W0 at *
  have ROWS : Hid (∀ u0 u1 u2 v0 v1 m0 m1 m2 V, NE w [.int .i64 x.id, .int .i64 x.len, .int .i64 x.gen, .slice Ap np cp] [.slice A0 n0 c0, .slice A1 n1 c1] u0 u1 u2 v0 v1 m0 m1 m2 V →
      (V.cell? ⟨w.heap.size, 0, none⟩ = some (.int .i64 x.id) ∧ V.cell? ⟨w.heap.size, 3, none⟩ = some (.slice Ap np cp)) ∧
      (V.cell? ⟨w.heap.size + 1, 0, none⟩ = some (.slice A0 n0 c0) ∧ V.cell? ⟨w.heap.size + 1, 1, none⟩ = some (.slice A1 n1 c1))) := Lib.hid (fun _ _ _ _ _ _ _ _ V h =>
    ⟨⟨cell_of_row V _ 0 _ _ _ h.b0, cell_of_row V _ 3 _ _ _ h.b0⟩, ⟨cell_of_row V _ 0 _ _ _ h.b1, cell_of_row V _ 1 _ _ _ h.b1⟩⟩)
  go_wp2_with fail
  go_loopw [12, 13] (fun nn i wr => ∃ k : Nat, ∃ A c B d, k ≤ ng ∧ i = .int .i64 k ∧ nn = .slice B (notN x good k).length d ∧ Hid (NL w good x k A c B d wr) ∧ Hid (NE w [.int .i64 x.id, .int .i64 x.len, .int .i64 x.gen, .slice Ap np cp] [.slice A0 n0 c0, .slice A1 n1 c1] (.int .i64 0) (.slice none 0 0) (.slice none 0 0) (.slice none 0 0) (.slice none 0 0) (.int .i64 x.id) (.slice A (badN good k).length c) (.slice none 0 0) wr)) (fun _ i _ => ng - (intOf i).toNat)
  case atStart => exact ⟨0, none, 0, none, 0, Nat.zero_le _, rfl, rfl, Lib.hid ⟨Own.nil_, Own.nil_, fun r h => by cases h⟩, HN0⟩
  case round =>
    clear HN0
    obtain ⟨k, A, c, B, d, hk, rfl, rfl, HL, HN⟩ := hrel
    have hbl := badN_le good k
    have hnl := notN_le x good k
    have hhi := HN.out.hi
    by_cases hlt : k < ng
    · obtain ⟨bg, og, rfl, _, hblg, hv, _⟩ := (HG.out wr HN.out.below).bool_at hlt
      cases hgk : good.getD k false with
      | true =>
        rw [hgk] at hv
        obtain ⟨⟨x0, x3⟩, ⟨y0, y1⟩⟩ := ROWS.out _ _ _ _ _ _ _ _ _ HN.out
        obtain ⟨bp, op, rfl, _, hblp, j1, j2, hp0, hp1, _⟩ := (HP.out wr HN.out.below).slot_at (show k < np by omega)
        have HGK := Lib.hid hgk; clear hgk
        generalize hdk : (x.place.getD k default).disk = v at *
        have HDK := Lib.hid hdk; clear hdk
        have HL2 := Lib.hid (HL.out.all ((Below.refl _ _).alloc (Nat.le_refl _) (.cells #[.int .i64 v] 3)))
        have HN3 := Lib.hid (HN.out.all ((Below.refl _ _).alloc (Nat.le_refl _) (.cells #[.int .i64 v] 3)))
        go_wp2_with (at_builtin; refine wpList_append1 rfl _ _ 52 rfl i0 (.int .i64 0) 8 Try.underlying52 hi0 hz0 hz1 hz2 rfl (by decide) rfl HL2.out.b wr.heap.size 3 1 _ v rfl (heap_alloc_new _ _) ⟨rfl, j1⟩ (by omega) (by omega) (by simp; omega) ?_)
        intro A9 c9 w4 hown4 hg4 hat4
        rw [← HDK.out] at hown4
        obtain ⟨e1, e2, hL⟩ := HL2.out.addB HGK.out hown4 hg4 (by rw [World.size_alloc]; exact hat4)
        have HL5 := Lib.hid hL; clear hL hown4 hat4
        have HN5 := Lib.hid (HN3.out.grown hg4 (fun r hr => (HL2.out.b.lt r hr).1)); clear hg4
        have E1 := Lib.hid e1; clear e1
        have E2 := Lib.hid e2; clear e2
        clear x0 x3 y0 y1 hp0 hp1 hv
        go_wp2
        go_roundw
        case rel => exact ⟨k + 1, _, _, _, _, by omega, by go_num, by rw [E2.out], HL5, by rw [E1.out]; exact HN5⟩
        case measure => simp [intOf]; omega
      | false =>
        rw [hgk] at hv
        have HGK := Lib.hid hgk; clear hgk
        obtain ⟨m0, m1, m2, m3, m4⟩ := HN.out.c4
        have HL2 := Lib.hid (HL.out.all ((Below.refl _ _).alloc (Nat.le_refl _) (.cells #[.int .i64 (k : Int)] 3)))
        have HN3 := Lib.hid (HN.out.all ((Below.refl _ _).alloc (Nat.le_refl _) (.cells #[.int .i64 (k : Int)] 3)))
        go_wp2_with (at_builtin; refine wpList_append1 rfl _ _ 52 rfl i0 (.int .i64 0) 8 Try.underlying52 hi0 hz0 hz1 hz2 rfl (by decide) rfl HL2.out.a wr.heap.size 3 1 _ (k : Int) rfl (heap_alloc_new _ _) ⟨rfl, by constructor <;> omega⟩ (by omega) (by omega) (by simp; omega) ?_)
        intro A9 c9 w4 hown4 hg4 hat4
        obtain ⟨e1, e2, hL⟩ := HL2.out.addA HGK.out hown4 hg4 (by rw [World.size_alloc]; exact hat4)
        have HN5 := Lib.hid (HN3.out.grown hg4 (fun r hr => (HL2.out.a.lt r hr).1)); clear hg4
        have HN6 := Lib.hid (HN5.out.mid (r := .slice A9 ((badN good k).length + 1) c9))
        have HL5 := Lib.hid (hL.set (p := ⟨w.heap.size + 4, 1, none⟩) (by show w.heap.size + 4 < w.heap.size + 5; omega) (.slice A9 ((badN good k).length + 1) c9)); clear hL hown4 hat4
        have E1 := Lib.hid e1; clear e1
        have E2 := Lib.hid e2; clear e2
        clear hv m0 m1 m2 m3 m4
        obtain ⟨m0, m1, m2, m3, m4⟩ := HN5.out.c4
        go_wp2
        go_roundw
        case rel => exact ⟨k + 1, _, _, _, _, by omega, by go_num, by rw [E2.out], HL5, by rw [E1.out]; exact HN6⟩
        case measure => simp [intOf]; omega
    · obtain rfl : ng = k := by omega
      have HB0 := Lib.hid (HL.out.a.sl (tg := true))
      have HB1 := Lib.hid (HL.out.b.sl (tg := true))
      clear HL
      have hsum := bad_not x good ng
      generalize hnn : (notN x good ng).length = nn at *
      generalize hbb : (badN good ng).length = bb at *
      have HNN := Lib.hid hnn; clear hnn
      have HBB := Lib.hid hbb; clear hbb
      by_cases h4 : (nn : Int) < s.K
      · have HR1 : Hid (R = (noNeed, ⟨[], []⟩, 8)) := Lib.hid (HNX.out.trans (if_pos h4))
        obtain ⟨f0, f1, f2, f3, f4, f5⟩ := HN.out.c2
        obtain ⟨g0, g1, g2, g3⟩ := HN.out.c3
        have HFIN := Lib.hid (RetNSE.bad HR1.out ((HN.out.st2 (p := .int .i64 0) (q := .slice none 0 0) (r := .slice none 0 0)).st3 (p := .slice none 0 0) (q := .slice none 0 0)).below)
        go_wp2
        refine bodyPost_ret (v := .tuple #[.agg #[.int .i64 0, .slice none 0 0, .slice none 0 0], .agg #[.slice none 0 0, .slice none 0 0], .int .i64 8]) (by simp [results, Try.results52, go_sem, *]; done) rfl ?_
        exact HFIN.out
      · have HR2 := Lib.hid (HNX.out.trans (if_neg h4))
        obtain ⟨m0, m1, m2, m3, m4⟩ := HN.out.c4
        by_cases h5 : bb = 0
        · subst h5
          have HR3 := Lib.hid (HR2.out.trans (if_pos (by rfl)))
          have HNIL : Hid (badN good ng = []) := Lib.hid (List.eq_nil_of_length_eq_zero HBB.out)
          go_wp2_with fail
          clear m0 m1 m2 m3 m4 h4
          refine region_free (by kernel_rfl) (by kernel_rfl) 77 rfl [55, 56, 57, 10] [2, 3, 4] [(57, 2)]
            [(55, [], fun _ => .agg #[.int .i64 x.id, .slice A 0 c, .slice none 0 0]), (56, [], fun _ => .agg #[.slice A0 n0 c0, .slice A1 n1 c1]), (10, [], fun _ => .int .i64 0)]
            [[3], [2], [], [], [], []] [[], [], [], [2], [3], []] [[], [], [56], [55], [57], []] (WdCp wr y (w.heap.size + 2) (w.heap.size + 3) (.int .i64 x.id) (.slice A 0 c) (.slice none 0 0)) (by kernel_rfl) (.n0 (Below.refl _ _).drew) ⟨?_, ?_, ?_, ?_, ?_, ?_, trivial⟩ ?_
          · (refine OpH.rd rfl rfl (fun ρ us w6 ho ht hc hl hsrc hW => ?_); have e11 := (ho 11 rfl).trans (show _ = (.pointer (some ⟨w.heap.size + 4, 0, none⟩) : Value) from rfl); obtain ⟨y0, y1, y2, _⟩ := (HN.out.all (hW.below (hl 3 (by decide)))).c4; clear ht ho; simp only [execOp, e11]; go_simp; try rfl)
          · (refine OpH.rd rfl rfl (fun ρ us w6 ho ht hc hl hsrc hW => ?_); have e5 := (ho 5 rfl).trans (show _ = (.pointer (some ⟨w.heap.size + 1, 0, none⟩) : Value) from rfl); obtain ⟨_, y0, y1⟩ := ROWS.out _ _ _ _ _ _ _ _ _ (HN.out.all (hW.early (hl 2 (by decide)))); clear ht ho; simp only [execOp, e5]; go_simp; try rfl)
          · refine OpH.wr rfl (fun Z us w6 ho ht hni hlim hreq hW K hK => ?_)
            have e56 := (ht 56 (by decide)).trans (show _ = (.agg #[.slice A0 n0 c0, .slice A1 n1 c1] : Value) from rfl)
            have hb := hW.early hni
            have hcl := HCP.out w6 (HN.out.all hb).below
            refine step_call rfl 48 #[.tmp 56] #[62] rfl Try.func48 (by kernel_rfl) (by kernel_rfl) #[.agg #[.slice A0 n0 c0, .slice A1 n1 c1]] (by simp [e56]) (hcl) ?_
            rintro e w7 ⟨vs, rfl, ⟨C0, m0, d0, C1, m1, d1, rfl, _, s0, s1⟩, hb7⟩
            refine ⟨_, rfl, hK _ _ ?_⟩
            cases hW with
            | n0 _ => exact .nc (hb.trans (hb7.mono hb.size)) (s0.mono (fun b hb' _ => Nat.le_trans hb.size hb')) (s1.mono (fun b hb' _ => Nat.le_trans hb.size hb'))
            | nc _ _ _ => exact absurd (by simp) hni
            | st _ _ _ => exact absurd (by simp) hni
            | done _ _ _ => exact absurd (by simp) hni
          · refine OpH.wr rfl (fun Z us w6 ho ht hni hlim hreq hW K hK => ?_)
            have r2 := hreq 2 (by decide)
            cases hW with
            | n0 _ => exact absurd r2 (by simp)
            | st _ _ _ => exact absurd (by simp) hni
            | done _ _ _ => exact absurd (by simp) hni
            | @nc _ C0 C1 m0 d0 m1 d1 hb s0 s1 =>
              have e55 := (ht 55 (by decide)).trans (show _ = (.agg #[.int .i64 x.id, .slice A 0 c, .slice none 0 0] : Value) from rfl)
              have e8 := (ho 8 rfl).trans (show _ = (.pointer (some ⟨w.heap.size + 2, 0, none⟩) : Value) from rfl)
              obtain ⟨f0, f1, f2, f3, f4, f5⟩ := (HN.out.all hb).c2
              have HD := Lib.hid (WdCp.st (y := y) (g2 := w.heap.size + 2) (g3 := w.heap.size + 3) (p := .int .i64 x.id) (q := .slice A 0 c) (r := .slice none 0 0) (x := undef) hb s0 s1)
              clear hb s0 s1 ht ho hlim hreq hni r2
              rw [if_pos (by simp [Region.wanted])]
              unfold Oper.wp
              generalize Z.eval = ρ at *
              simp only [execOp, e55, e8]
              go_simp
              exact hK undef _ HD.out
          · refine OpH.wr rfl (fun Z us w6 ho ht hni hlim hreq hW K hK => ?_)
            have r3 := hreq 3 (by decide)
            cases hW with
            | n0 _ => exact absurd r3 (by simp)
            | nc _ _ _ => exact absurd r3 (by simp)
            | done _ _ _ => exact absurd (by simp) hni
            | @st W6 C0 C1 m0 d0 m1 d1 x3 hb s0 s1 =>
              have e57 := (ht 57 (by decide)).trans (show _ = (.agg #[.slice C0 m0 d0, .slice C1 m1 d1] : Value) from rfl)
              have e9 := (ho 9 rfl).trans (show _ = (.pointer (some ⟨w.heap.size + 3, 0, none⟩) : Value) from rfl)
              obtain ⟨f0, f1, f2, f3⟩ := ((HN.out.all hb).st2 (p := .int .i64 x.id) (q := .slice A 0 c) (r := .slice none 0 0)).c3
              have HD := Lib.hid (WdCp.done (y := y) (g2 := w.heap.size + 2) (g3 := w.heap.size + 3) (p := .int .i64 x.id) (q := .slice A 0 c) (r := .slice none 0 0) (x := x3) (x' := undef) hb s0 s1)
              clear hb s0 s1 ht ho hlim hreq hni r3
              generalize (((W6.setCell ⟨w.heap.size + 2, 0, none⟩ (.int .i64 x.id)).setCell ⟨w.heap.size + 2, 1, none⟩ (.slice A 0 c)).setCell ⟨w.heap.size + 2, 2, none⟩ (.slice none 0 0)) = W7 at *
              rw [if_pos (by simp [Region.wanted])]
              unfold Oper.wp
              generalize Z.eval = ρ at *
              simp only [execOp, e57, e9]
              go_simp
              exact hK undef _ HD.out
          · (refine OpH.rd rfl rfl (fun ρ us w6 ho ht hc hl hsrc hW => ?_); clear ht ho; simp only [execOp]; go_simp; try rfl)
          · intro us w7 hmem hW
            have r4 := hmem 4 (by decide)
            cases hW with
            | n0 _ => exact absurd r4 (by simp)
            | nc _ _ _ => exact absurd r4 (by simp)
            | st _ _ _ => exact absurd r4 (by simp)
            | @done W6 C0 C1 m0 d0 m1 d1 x3 x4 hb s0 s1 =>
            have hN8 := ((HN.out.all hb).st2 (p := .int .i64 x.id) (q := .slice A 0 c) (r := .slice none 0 0)).st3 (p := .slice C0 m0 d0) (q := .slice C1 m1 d1)
            have hk : Keeps (fun b => w.heap.size + 5 ≤ b) W6 (((((W6.setCell ⟨w.heap.size + 2, 0, none⟩ (.int .i64 x.id)).setCell ⟨w.heap.size + 2, 1, none⟩ (.slice A 0 c)).setCell ⟨w.heap.size + 2, 2, none⟩ (.slice none 0 0)).setCell ⟨w.heap.size + 3, 0, none⟩ (.slice C0 m0 d0)).setCell ⟨w.heap.size + 3, 1, none⟩ (.slice C1 m1 d1)) := (by repeat' (first | (with_reducible exact Keeps.refl _ _) | (with_reducible refine Keeps.alloc ?_ _) | (with_reducible refine Keeps.drew ?_) | (with_reducible refine Keeps.drewN ?_ _) | (with_reducible refine Keeps.setCell ?_ ?_ _) | (refine Keeps.call ?_ (by with_reducible assumption)) | (with_reducible refine Keeps.ext ?_ _) | (simp; done) | (simp; omega) | omega))
            have HFIN : Hid (RetNSE w R (.returned (.tuple #[.agg #[.int .i64 x.id, .slice A 0 c, .slice none 0 0], .agg #[.slice C0 m0 d0, .slice C1 m1 d1], .int .i64 0])) _) := Lib.hid (by
              rw [HR3.out]
              exact ⟨_, _, _, _, _, _, _, _, _, _, _, _, rfl, ((((HNIL.out ▸ HB0.out : Sl true 3 intE wr _ A 0 c []).all hb).mono (S' := fun b => w.heap.size + 5 ≤ b) (fun b hb' _ => hb'.elim (fun h => h.elim) id)).keep hk).mono (fun b hb' _ => by have : w.heap.size + 5 ≤ b := hb'; omega), Sl.nil_ (by decide),
                ((s0.mono (S' := fun b => w.heap.size + 5 ≤ b) (fun b hb' _ => by have : wr.heap.size ≤ b := hb'; omega)).keep hk).mono (fun b hb' _ => by have : w.heap.size + 5 ≤ b := hb'; omega), ((s1.mono (S' := fun b => w.heap.size + 5 ≤ b) (fun b hb' _ => by have : wr.heap.size ≤ b := hb'; omega)).keep hk).mono (fun b hb' _ => by have : w.heap.size + 5 ≤ b := hb'; omega), hN8.below⟩)
            obtain ⟨f0, f1, f2, _⟩ := hN8.c2
            obtain ⟨f3, f4, _⟩ := hN8.c3
            clear hk hb s0 s1 hN8 r4 hmem
            generalize (((((W6.setCell ⟨w.heap.size + 2, 0, none⟩ (.int .i64 x.id)).setCell ⟨w.heap.size + 2, 1, none⟩ (.slice A 0 c)).setCell ⟨w.heap.size + 2, 2, none⟩ (.slice none 0 0)).setCell ⟨w.heap.size + 3, 0, none⟩ (.slice C0 m0 d0)).setCell ⟨w.heap.size + 3, 1, none⟩ (.slice C1 m1 d1)) = W8 at *
            simp only [putAll, List.map_cons, List.map_nil, List.foldl_cons, List.foldl_nil, Act.put, List.setIfInBounds_toArray, List.set_cons_succ, List.set_cons_zero]
            generalize hsv : slotAt _ _ _ = sv
            have h10 : sv 10 = .int .i64 0 := by rw [← hsv]; rfl
            rw [h10]
            clear hsv h10
            go_wp2
            refine bodyPost_ret (v := .tuple #[.agg #[.int .i64 x.id, .slice A 0 c, .slice none 0 0], .agg #[.slice C0 m0 d0, .slice C1 m1 d1], .int .i64 0]) (by simp [results, Try.results52, go_sem, *]; done) rfl ?_
            exact HFIN.out
        · have HR3 := Lib.hid (HR2.out.trans (if_neg h5))
          have hb12 : bb ≤ 12 := by omega
          have htk := HTK.out wr bb true _ B nn d (notN x good ng) HN.out.below (by omega) hb12 (by omega) HB1.out
          obtain ⟨_, ⟨q0, q1⟩⟩ := ROWS.out _ _ _ _ _ _ _ _ _ HN.out
          by_cases het : takeErr y bb (notN x good ng) = 0
          · have htr : refTakeR y bb (notN x good ng) = (takeL y bb (notN x good ng), takeX y bb (notN x good ng), 0) := if_pos het
            have HR4 := Lib.hid (HR3.out.trans (if_pos het))
            rw [htr] at htk
            have HTK2 := Lib.hid htk; clear htk htr het
            go_wp2_with fail
            refine HTK2.out.mono ?_
            clear HTK2 q0 q1 m0 m1 m2 m3 m4
            rintro e w5 ⟨L, nl, cl, C0, m0, d0, C1, m1, d1, rfl, hl, hs0, hs1, hb5⟩
            have s5 := hb5.size
            simp only at hl hs0 hs1
            have HN6 := Lib.hid ((HN.out.all hb5).all ((Below.refl _ _).alloc (Nat.le_refl _) (.cells #[.slice C0 m0 d0, .slice C1 m1 d1] 62)))
            have hrow := heap_alloc_new w5 (.cells #[.slice C0 m0 d0, .slice C1 m1 d1] 62)
            have ha : Below w5.heap.size w5 (w5.alloc (.cells #[.slice C0 m0 d0, .slice C1 m1 d1] 62)) := (Below.refl _ _).alloc (Nat.le_refl _) _
            have HLL := Lib.hid ((hl.mono (S' := fun b => w.heap.size + 5 ≤ b) (fun b hb' _ => by have : wr.heap.size ≤ b := hb'; omega)).all ha); clear hl
            have HS0 := Lib.hid ((hs0.mono (S' := fun b => w.heap.size + 5 ≤ b) (fun b hb' _ => by have : wr.heap.size ≤ b := hb'; omega)).all ha); clear hs0
            have HS1' := Lib.hid ((hs1.mono (S' := fun b => w.heap.size + 5 ≤ b) (fun b hb' _ => by have : wr.heap.size ≤ b := hb'; omega)).all ha); clear hs1
            have HBD := Lib.hid (((HB0.out.mono (S' := fun b => w.heap.size + 5 ≤ b) (fun b hb' _ => hb'.elim (fun h => h.elim) id)).all hb5).all ha)
            clear ha hb5
            go_upto_region 14 with (fail)
            generalize (w5.alloc (.cells #[.slice C0 m0 d0, .slice C1 m1 d1] 62)) = w6 at *
            have HN7 := Lib.hid (HN6.out.last (r := .slice L nl cl))
            have hk : Keeps (fun b => w.heap.size + 5 ≤ b) w6 (w6.setCell ⟨w.heap.size + 4, 2, none⟩ (.slice L nl cl)) := (by repeat' (first | (with_reducible exact Keeps.refl _ _) | (with_reducible refine Keeps.alloc ?_ _) | (with_reducible refine Keeps.drew ?_) | (with_reducible refine Keeps.drewN ?_ _) | (with_reducible refine Keeps.setCell ?_ ?_ _) | (refine Keeps.call ?_ (by with_reducible assumption)) | (with_reducible refine Keeps.ext ?_ _) | (simp; done) | (simp; omega) | omega))
            have HROW := Lib.hid (show (w6.setCell ⟨w.heap.size + 4, 2, none⟩ (.slice L nl cl)).heap[w5.heap.size]? = some (.cells #[.slice C0 m0 d0, .slice C1 m1 d1] 62 (0, 0)) by rw [Below.heap_setCell _ _ _ _ (by show w5.heap.size ≠ w.heap.size + 4; omega)]; exact hrow)
            have HLL2 := Lib.hid (HLL.out.keep hk); clear HLL
            have HT0 := Lib.hid (HS0.out.keep hk); clear HS0
            have HT1 := Lib.hid (HS1'.out.keep hk); clear HS1'
            have HBD2 := Lib.hid (HBD.out.keep hk); clear HBD
            clear hk hrow
            obtain ⟨m0', m1', m2', m3', m4'⟩ := HN6.out.c4
            go_upto_region 17 with (fail)
            clear m0' m1' m2' m3' m4' HN6
            generalize (w6.setCell ⟨w.heap.size + 4, 2, none⟩ (.slice L nl cl)) = w7 at *
            have h5g : w.heap.size + 5 ≤ w5.heap.size := by omega
            have hg7 : w5.heap.size < w7.heap.size := (Array.getElem?_eq_some_iff.1 HROW.out).1
            go_wp2_with fail
            refine region_free (by kernel_rfl) (by kernel_rfl) 77 rfl [75, 76, 10] [2, 3] []
              [(75, [], fun _ => .agg #[.int .i64 x.id, .slice A bb c, .slice L nl cl]), (76, [], fun _ => .agg #[.slice C0 m0 d0, .slice C1 m1 d1]), (10, [], fun _ => .int .i64 0)]
              [[2], [3], [], [], []] [[], [], [], [2], []] [[], [], [75], [76], []] (WdSt w7 (w.heap.size + 2) (w.heap.size + 3) (.int .i64 x.id) (.slice A bb c) (.slice L nl cl) (.slice C0 m0 d0) (.slice C1 m1 d1)) (by kernel_rfl) (.n0 (Below.refl _ _).drew) ⟨?_, ?_, ?_, ?_, ?_, trivial⟩ ?_
            · (refine OpH.rd rfl rfl (fun ρ us w6 ho ht hc hl hsrc hW => ?_); have e11 := (ho 11 rfl).trans (show _ = (.pointer (some ⟨w.heap.size + 4, 0, none⟩) : Value) from rfl); obtain ⟨y0, y1, y2, _⟩ := (HN7.out.all (hW.early (hl 2 (by decide)))).c4; clear ht ho; simp only [execOp, e11]; go_simp; try rfl)
            · (refine OpH.rd rfl rfl (fun ρ us w6 ho ht hc hl hsrc hW => ?_); have e15 := (ho 15 rfl).trans (show _ = (.pointer (some ⟨w5.heap.size, 0, none⟩) : Value) from rfl); have r := (hW.keep (hl 3 (by decide)) hg7 (by omega)).trans HROW.out; have y0 := (cell_of_row w6 w5.heap.size 0 _ _ _ r).trans (show _ = some (Value.slice C0 m0 d0) from rfl); have y1 := (cell_of_row w6 w5.heap.size 1 _ _ _ r).trans (show _ = some (Value.slice C1 m1 d1) from rfl); clear r; clear ht ho; simp only [execOp, e15]; go_simp; try rfl)
            · refine OpH.wr rfl (fun Z us w6 ho ht hni hlim hreq hW K hK => ?_)
              have hb := hW.early hni
              have e75 := (ht 75 (by decide)).trans (show _ = (.agg #[.int .i64 x.id, .slice A bb c, .slice L nl cl] : Value) from rfl)
              have e8 := (ho 8 rfl).trans (show _ = (.pointer (some ⟨w.heap.size + 2, 0, none⟩) : Value) from rfl)
              obtain ⟨f0, f1, f2, f3, f4, f5⟩ := (HN7.out.all hb).c2
              have HD : Hid (WdSt w7 (w.heap.size + 2) (w.heap.size + 3) (.int .i64 x.id) (.slice A bb c) (.slice L nl cl) (.slice C0 m0 d0) (.slice C1 m1 d1) (us ++ [(2, undef)]) (((w6.setCell ⟨w.heap.size + 2, 0, none⟩ (.int .i64 x.id)).setCell ⟨w.heap.size + 2, 1, none⟩ (.slice A bb c)).setCell ⟨w.heap.size + 2, 2, none⟩ (.slice L nl cl))) := Lib.hid (by
                cases hW with
                | n0 h => exact .st h
                | st _ => exact absurd (by simp) hni
                | done _ => exact absurd (by simp) hni)
              clear hb ht ho hlim hreq hni hW
              rw [if_pos (by simp [Region.wanted])]
              unfold Oper.wp
              generalize Z.eval = ρ at *
              simp only [execOp, e75, e8]
              go_simp
              exact hK undef _ HD.out
            · refine OpH.wr rfl (fun Z us w6 ho ht hni hlim hreq hW K hK => ?_)
              have r3 := hreq 2 (by decide)
              cases hW with
              | n0 _ => exact absurd r3 (by simp)
              | done _ => exact absurd (by simp) hni
              | @st W6 x3 hb =>
                have e76 := (ht 76 (by decide)).trans (show _ = (.agg #[.slice C0 m0 d0, .slice C1 m1 d1] : Value) from rfl)
                have e9 := (ho 9 rfl).trans (show _ = (.pointer (some ⟨w.heap.size + 3, 0, none⟩) : Value) from rfl)
                obtain ⟨f0, f1, f2, f3⟩ := ((HN7.out.all hb).st2 (p := .int .i64 x.id) (q := .slice A bb c) (r := .slice L nl cl)).c3
                have HD := Lib.hid (WdSt.done (g2 := w.heap.size + 2) (g3 := w.heap.size + 3) (p := .int .i64 x.id) (q := .slice A bb c) (r := .slice L nl cl) (a := .slice C0 m0 d0) (b := .slice C1 m1 d1) (x := x3) (x' := undef) hb)
                clear hb ht ho hlim hreq hni r3
                generalize (((W6.setCell ⟨w.heap.size + 2, 0, none⟩ (.int .i64 x.id)).setCell ⟨w.heap.size + 2, 1, none⟩ (.slice A bb c)).setCell ⟨w.heap.size + 2, 2, none⟩ (.slice L nl cl)) = W7 at *
                rw [if_pos (by simp [Region.wanted])]
                unfold Oper.wp
                generalize Z.eval = ρ at *
                simp only [execOp, e76, e9]
                go_simp
                exact hK undef _ HD.out
            · (refine OpH.rd rfl rfl (fun ρ us w6 ho ht hc hl hsrc hW => ?_); clear ht ho; simp only [execOp]; go_simp; try rfl)
            · intro us w8 hmem hW
              have r4 := hmem 3 (by decide)
              cases hW with
              | n0 _ => exact absurd r4 (by simp)
              | st _ => exact absurd r4 (by simp)
              | @done W6 x3 x4 hb =>
              have hN8 := ((HN7.out.all hb).st2 (p := .int .i64 x.id) (q := .slice A bb c) (r := .slice L nl cl)).st3 (p := .slice C0 m0 d0) (q := .slice C1 m1 d1)
              have hk : Keeps (fun b => w.heap.size + 5 ≤ b) W6 (((((W6.setCell ⟨w.heap.size + 2, 0, none⟩ (.int .i64 x.id)).setCell ⟨w.heap.size + 2, 1, none⟩ (.slice A bb c)).setCell ⟨w.heap.size + 2, 2, none⟩ (.slice L nl cl)).setCell ⟨w.heap.size + 3, 0, none⟩ (.slice C0 m0 d0)).setCell ⟨w.heap.size + 3, 1, none⟩ (.slice C1 m1 d1)) := (by repeat' (first | (with_reducible exact Keeps.refl _ _) | (with_reducible refine Keeps.alloc ?_ _) | (with_reducible refine Keeps.drew ?_) | (with_reducible refine Keeps.drewN ?_ _) | (with_reducible refine Keeps.setCell ?_ ?_ _) | (refine Keeps.call ?_ (by with_reducible assumption)) | (with_reducible refine Keeps.ext ?_ _) | (simp; done) | (simp; omega) | omega))
              have HFIN : Hid (RetNSE w R (.returned (.tuple #[.agg #[.int .i64 x.id, .slice A bb c, .slice L nl cl], .agg #[.slice C0 m0 d0, .slice C1 m1 d1], .int .i64 0])) _) := Lib.hid (by
                rw [HR4.out]
                exact ⟨_, _, _, _, _, _, _, _, _, _, _, _, rfl, ((HBD2.out.all hb).keep hk).mono (fun b hb' _ => by have : w.heap.size + 5 ≤ b := hb'; omega), ((HLL2.out.all hb).keep hk).mono (fun b hb' _ => by have : w.heap.size + 5 ≤ b := hb'; omega),
                  ((HT0.out.all hb).keep hk).mono (fun b hb' _ => by have : w.heap.size + 5 ≤ b := hb'; omega), ((HT1.out.all hb).keep hk).mono (fun b hb' _ => by have : w.heap.size + 5 ≤ b := hb'; omega), hN8.below⟩)
              obtain ⟨f0, f1, f2, _⟩ := hN8.c2
              obtain ⟨f3, f4, _⟩ := hN8.c3
              clear hk hb hN8 r4 hmem
              generalize (((((W6.setCell ⟨w.heap.size + 2, 0, none⟩ (.int .i64 x.id)).setCell ⟨w.heap.size + 2, 1, none⟩ (.slice A bb c)).setCell ⟨w.heap.size + 2, 2, none⟩ (.slice L nl cl)).setCell ⟨w.heap.size + 3, 0, none⟩ (.slice C0 m0 d0)).setCell ⟨w.heap.size + 3, 1, none⟩ (.slice C1 m1 d1)) = W8 at *
              simp only [putAll, List.map_cons, List.map_nil, List.foldl_cons, List.foldl_nil, Act.put, List.setIfInBounds_toArray, List.set_cons_succ, List.set_cons_zero]
              generalize hsv : slotAt _ _ _ = sv
              have h10 : sv 10 = .int .i64 0 := by rw [← hsv]; rfl
              rw [h10]
              clear hsv h10
              go_wp2
              refine bodyPost_ret (v := .tuple #[.agg #[.int .i64 x.id, .slice A bb c, .slice L nl cl], .agg #[.slice C0 m0 d0, .slice C1 m1 d1], .int .i64 0]) (by simp [results, Try.results52, go_sem, *]; done) rfl ?_
              exact HFIN.out
          · have htr : refTakeR y bb (notN x good ng) = ([], ⟨[], []⟩, takeErr y bb (notN x good ng)) := if_neg het
            have HR4 := Lib.hid (HR3.out.trans (if_neg het))
            rw [htr] at htk
            generalize takeErr y bb (notN x good ng) = er at *
            have hnz : (er != 0) = true := by simpa using het
            have HTK2 := Lib.hid htk; clear htk htr het
            go_wp2_with fail
            refine HTK2.out.mono ?_
            clear HTK2 q0 q1 m0 m1 m2 m3 m4
            rintro e w5 ⟨L, nl, cl, C0, m0, d0, C1, m1, d1, rfl, _, _, _, hb5⟩
            have HN6 := Lib.hid ((HN.out.all hb5).all ((Below.refl _ _).alloc (Nat.le_refl _) (.cells #[.slice C0 m0 d0, .slice C1 m1 d1] 62)))
            clear hb5
            go_upto_region 14 with (fail)
            generalize (w5.alloc (.cells #[.slice C0 m0 d0, .slice C1 m1 d1] 62)) = w6 at *
            obtain ⟨f0, f1, f2, f3, f4, f5⟩ := HN6.out.c2
            obtain ⟨g0, g1, g2, g3⟩ := HN6.out.c3
            have HFIN := Lib.hid (RetNSE.bad HR4.out ((HN6.out.st2 (p := .int .i64 0) (q := .slice none 0 0) (r := .slice none 0 0)).st3 (p := .slice none 0 0) (q := .slice none 0 0)).below)
            go_wp2
            refine bodyPost_ret (v := .tuple #[.agg #[.int .i64 0, .slice none 0 0, .slice none 0 0], .agg #[.slice none 0 0, .slice none 0 0], .int .i64 er]) (by simp [results, Try.results52, go_sem, *]; done) rfl ?_
            exact HFIN.out
end Go.Proofs.Ytfccghfcilccfaa
