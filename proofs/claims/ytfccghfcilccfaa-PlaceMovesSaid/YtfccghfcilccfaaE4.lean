/- What a stripe lacks, and where that may lie: place.Needs. Printed by gen_e4.py. -/
import Derived.Test.YtfccghfcilccfaaE2
import Derived.Test.YtfccghfcilccfaaT1
import Derived.Test.YtfccghfcilccfaaB5
import Derived.Deep.Cut
namespace Go.Silo
open Go Go.RowKit
theorem setCell_same {w : World} {b k : Nat} {cs : Array Value} {T : TypeId} {fr : Nat × Nat} {v : Value} (h : w.heap[b]? = some (.cells cs T fr)) (hv : cs[k]? = some v) : w.setCell ⟨b, k, none⟩ v = w := by
  have hh : (w.setCell ⟨b, k, none⟩ v).heap = w.heap := by
    apply Array.ext_getElem?
    intro i
    by_cases hi : i = b
    · subst hi
      simp only [World.setCell, Array.getElem?_modify, h]
      have : cs.setIfInBounds k v = cs := by
        apply Array.ext_getElem?
        intro j
        rw [Array.getElem?_setIfInBounds]
        split
        · rename_i hj; subst hj
          split
          · exact hv.symm
          · rename_i hk; rw [Array.getElem?_eq_none (by omega)]
        · rfl
      simp [this]
    · exact Below.heap_setCell _ _ _ _ hi
  have h2 : w.setCell ⟨b, k, none⟩ v = { w with heap := (w.setCell ⟨b, k, none⟩ v).heap } := rfl
  rw [h2, hh]
end Go.Silo
namespace Go.Proofs.Ytfccghfcilccfaa
open Go.RowKit Go.Silo

/-- Which pieces are bad; on which disks the good ones lie. -/
def badN (good : List Bool) (k : Nat) : List Int := ((List.range k).filter fun i => !good.getD i false).map fun i : Nat => (i : Int)
def notN (x : Stripe) (good : List Bool) (k : Nat) : List Int := ((List.range k).filter fun i => good.getD i false).map fun i : Nat => (x.place.getD i default).disk
theorem badN_succ (good : List Bool) (k : Nat) : badN good (k + 1) = badN good k ++ if good.getD k false = true then [] else [(k : Int)] := by
  unfold badN
  rw [List.range_succ, List.filter_append, List.map_append]
  cases h : good.getD k false with
  | false => rw [List.filter_cons_of_pos (by rw [h]; rfl), if_neg (by decide)]; rfl
  | true => rw [List.filter_cons_of_neg (by rw [h]; decide), if_pos rfl]; rfl
theorem notN_succ (x : Stripe) (good : List Bool) (k : Nat) : notN x good (k + 1) = notN x good k ++ if good.getD k false = true then [(x.place.getD k default).disk] else [] := by
  unfold notN
  rw [List.range_succ, List.filter_append, List.map_append]
  cases h : good.getD k false with
  | false => rw [List.filter_cons_of_neg (by rw [h]; decide), if_neg (by decide)]; rfl
  | true => rw [List.filter_cons_of_pos (p := fun i => good.getD i false) h, if_pos rfl]; rfl
theorem badN_le (good : List Bool) (k : Nat) : (badN good k).length ≤ k := by unfold badN; rw [List.length_map]; exact Nat.le_trans (List.length_filter_le _ _) (by simp)
theorem notN_le (x : Stripe) (good : List Bool) (k : Nat) : (notN x good k).length ≤ k := by unfold notN; rw [List.length_map]; exact Nat.le_trans (List.length_filter_le _ _) (by simp)

def noNeed : Need := ⟨0, [], []⟩
/-- What a stripe that may be needs, of slots that may be. -/
def needX (s : Shape) (x : Stripe) (y : SlotsD) (good : List Bool) : Need × SlotsD × Int :=
  if ((notN x good good.length).length : Int) < s.K then (noNeed, ⟨[], []⟩, 8)
  else if (badN good good.length).length = 0 then (⟨x.id, [], []⟩, y, 0)
  else if takeErr y (badN good good.length).length (notN x good good.length) = 0 then
    (⟨x.id, badN good good.length, takeL y (badN good good.length).length (notN x good good.length)⟩, takeX y (badN good good.length).length (notN x good good.length), 0)
  else (noNeed, ⟨[], []⟩, takeErr y (badN good good.length).length (notN x good good.length))
noncomputable def needR (s : Shape) (x : Stripe) (y : SlotsD) (good : List Bool) : Need × SlotsD × Int :=
  if stripeOk s x = true ∧ slotsOkB y = true ∧ (good.length : Int) = s.K + s.M then needX s x y good else (noNeed, ⟨[], []⟩, 1)

/-- Three results: a need, slots, a number. -/
def RetNSE (w : World) (r : Need × SlotsD × Int) (e : Ending) (w' : World) : Prop :=
  ∃ A n c B m d A0 n0 c0 A1 n1 c1, e = .returned (.tuple #[.agg #[.int .i64 r.1.stripe, .slice A n c, .slice B m d], .agg #[.slice A0 n0 c0, .slice A1 n1 c1], .int .i64 r.2.2]) ∧ Sl true 3 intE w' (fun b => w.heap.size ≤ b) A n c r.1.index ∧ Sl true 104 slotE w' (fun b => w.heap.size ≤ b) B m d r.1.to ∧
    Sl true 4 boolE w' (fun b => w.heap.size ≤ b) A0 n0 c0 r.2.1.live ∧ Sl true 52 (slE true 3 intE) w' (fun b => w.heap.size ≤ b) A1 n1 c1 r.2.1.free ∧ Below w.heap.size w w'
theorem RetNSE.bad {w w' : World} {R : Need × SlotsD × Int} {e : Int} (h : R = (noNeed, ⟨[], []⟩, e)) (hb : Below w.heap.size w w') : RetNSE w R (.returned (.tuple #[.agg #[.int .i64 0, .slice none 0 0, .slice none 0 0], .agg #[.slice none 0 0, .slice none 0 0], .int .i64 e])) w' := by
  subst h
  exact ⟨_, _, _, _, _, _, _, _, _, _, _, _, rfl, Sl.nil_ (by decide), Sl.nil_ (by decide), Sl.nil_ (by decide), Sl.nil_ (by decide), hb⟩

/-- The five boxes. -/
structure ND (w : World) (vs vx vy : List Value) (u0 u1 u2 v0 v1 : Value) (V : World) : Prop where
  b0 : V.heap[w.heap.size]? = some (.cells vs.toArray 23 (0, 0))
  b1 : V.heap[w.heap.size + 1]? = some (.cells vx.toArray 79 (0, 0))
  b2 : V.heap[w.heap.size + 2]? = some (.cells vy.toArray 62 (0, 0))
  b3 : V.heap[w.heap.size + 3]? = some (.cells #[u0, u1, u2] 88 (0, 0))
  b4 : V.heap[w.heap.size + 4]? = some (.cells #[v0, v1] 62 (0, 0))
  below : Below w.heap.size w V
section
variable {w : World} {vs vx vy : List Value} {u0 u1 u2 v0 v1 p q r : Value} {V V' : World}
theorem ND.hi (h : ND w vs vx vy u0 u1 u2 v0 v1 V) : w.heap.size + 4 < V.heap.size := (Array.getElem?_eq_some_iff.1 h.b4).1
theorem ND.frame (h : ND w vs vx vy u0 u1 u2 v0 v1 V) (hb : ∀ b, b ≤ w.heap.size + 4 → V'.heap[b]? = V.heap[b]?) (hB : Below w.heap.size w V') : ND w vs vx vy u0 u1 u2 v0 v1 V' :=
  ⟨(hb _ (by omega)).trans h.b0, (hb _ (by omega)).trans h.b1, (hb _ (by omega)).trans h.b2, (hb _ (by omega)).trans h.b3, (hb _ (by omega)).trans h.b4, hB⟩
theorem ND.all (h : ND w vs vx vy u0 u1 u2 v0 v1 V) (hb : Below V.heap.size V V') : ND w vs vx vy u0 u1 u2 v0 v1 V' :=
  h.frame (fun b hb' => hb.block b (by have := h.hi; omega)) (h.below.trans (hb.mono (by have := h.hi; omega)))
theorem ND.st4 (h : ND w vs vx vy u0 u1 u2 v0 v1 V) : ND w vs vx vy u0 u1 u2 p q ((V.setCell ⟨w.heap.size + 4, 0, none⟩ p).setCell ⟨w.heap.size + 4, 1, none⟩ q) := by
  have hb : ∀ b, b ≠ w.heap.size + 4 → ((V.setCell ⟨w.heap.size + 4, 0, none⟩ p).setCell ⟨w.heap.size + 4, 1, none⟩ q).heap[b]? = V.heap[b]? := fun b hb => by rw [Below.heap_setCell _ _ _ _ hb, Below.heap_setCell _ _ _ _ hb]
  exact ⟨(hb _ (by omega)).trans h.b0, (hb _ (by omega)).trans h.b1, (hb _ (by omega)).trans h.b2, (hb _ (by omega)).trans h.b3, row_set2 h.b4, (h.below.setCell (by show w.heap.size ≤ w.heap.size + 4; omega) _).setCell (by show w.heap.size ≤ w.heap.size + 4; omega) _⟩
theorem row_set3 {w : World} {g : Nat} {a b c u v z : Value} {T : TypeId} (h : w.heap[g]? = some (.cells #[a, b, c] T (0, 0))) : (((w.setCell ⟨g, 0, none⟩ u).setCell ⟨g, 1, none⟩ v).setCell ⟨g, 2, none⟩ z).heap[g]? = some (.cells #[u, v, z] T (0, 0)) := by
  simp [World.setCell, Array.getElem?_modify, h]
theorem row_last {w : World} {g : Nat} {a b c z : Value} {T : TypeId} (h : w.heap[g]? = some (.cells #[a, b, c] T (0, 0))) : (w.setCell ⟨g, 2, none⟩ z).heap[g]? = some (.cells #[a, b, z] T (0, 0)) := by
  simp [World.setCell, Array.getElem?_modify, h]
theorem ND.st3 (h : ND w vs vx vy u0 u1 u2 v0 v1 V) : ND w vs vx vy p q r v0 v1 (((V.setCell ⟨w.heap.size + 3, 0, none⟩ p).setCell ⟨w.heap.size + 3, 1, none⟩ q).setCell ⟨w.heap.size + 3, 2, none⟩ r) := by
  have hb : ∀ b, b ≠ w.heap.size + 3 → (((V.setCell ⟨w.heap.size + 3, 0, none⟩ p).setCell ⟨w.heap.size + 3, 1, none⟩ q).setCell ⟨w.heap.size + 3, 2, none⟩ r).heap[b]? = V.heap[b]? := fun b hb => by rw [Below.heap_setCell _ _ _ _ hb, Below.heap_setCell _ _ _ _ hb, Below.heap_setCell _ _ _ _ hb]
  exact ⟨(hb _ (by omega)).trans h.b0, (hb _ (by omega)).trans h.b1, (hb _ (by omega)).trans h.b2, row_set3 h.b3, (hb _ (by omega)).trans h.b4, ((h.below.setCell (by show w.heap.size ≤ w.heap.size + 3; omega) _).setCell (by show w.heap.size ≤ w.heap.size + 3; omega) _).setCell (by show w.heap.size ≤ w.heap.size + 3; omega) _⟩
theorem ND.last (h : ND w vs vx vy u0 u1 u2 v0 v1 V) : ND w vs vx vy u0 u1 r v0 v1 (V.setCell ⟨w.heap.size + 3, 2, none⟩ r) := by
  have hb : ∀ b, b ≠ w.heap.size + 3 → (V.setCell ⟨w.heap.size + 3, 2, none⟩ r).heap[b]? = V.heap[b]? := fun b hb => by rw [Below.heap_setCell _ _ _ _ hb]
  exact ⟨(hb _ (by omega)).trans h.b0, (hb _ (by omega)).trans h.b1, (hb _ (by omega)).trans h.b2, row_last h.b3, (hb _ (by omega)).trans h.b4, h.below.setCell (by show w.heap.size ≤ w.heap.size + 3; omega) _⟩
theorem ND.c3 (h : ND w vs vx vy u0 u1 u2 v0 v1 V) : V.cell? ⟨w.heap.size + 3, 0, none⟩ = some u0 ∧ V.cell? ⟨w.heap.size + 3, 1, none⟩ = some u1 ∧ V.cell? ⟨w.heap.size + 3, 2, none⟩ = some u2 ∧ V.frozen? ⟨w.heap.size + 3, 0, none⟩ = false ∧ V.frozen? ⟨w.heap.size + 3, 1, none⟩ = false ∧ V.frozen? ⟨w.heap.size + 3, 2, none⟩ = false :=
  ⟨cell_of_row V _ 0 _ _ _ h.b3, cell_of_row V _ 1 _ _ _ h.b3, cell_of_row V _ 2 _ _ _ h.b3, frozen_of_row V _ 0 _ _ h.b3, frozen_of_row V _ 1 _ _ h.b3, frozen_of_row V _ 2 _ _ h.b3⟩
theorem ND.c4 (h : ND w vs vx vy u0 u1 u2 v0 v1 V) : V.cell? ⟨w.heap.size + 4, 0, none⟩ = some v0 ∧ V.cell? ⟨w.heap.size + 4, 1, none⟩ = some v1 ∧ V.frozen? ⟨w.heap.size + 4, 0, none⟩ = false ∧ V.frozen? ⟨w.heap.size + 4, 1, none⟩ = false :=
  ⟨cell_of_row V _ 0 _ _ _ h.b4, cell_of_row V _ 1 _ _ _ h.b4, frozen_of_row V _ 0 _ _ h.b4, frozen_of_row V _ 1 _ _ h.b4⟩
end

theorem ND.grown {row : Option Nat} {w : World} {vs vx vy : List Value} {u0 u1 u2 v0 v1 : Value} {V V' : World} (h : ND w vs vx vy u0 u1 u2 v0 v1 V) (hg : V.grownBy V' row) (hr : ∀ r, row = some r → w.heap.size + 5 ≤ r) : ND w vs vx vy u0 u1 u2 v0 v1 V' :=
  h.frame (fun b hb => hg.block b (by have := h.hi; omega) (fun e => by have := hr b e.symm; omega)) (h.below.grown hg (by have := h.hi; omega) (fun r hr' => by have := hr r hr'; omega))
/-- In the loop: both lists. -/
structure NL (w : World) (good : List Bool) (x : Stripe) (k : Nat) (A : Option Addr) (c : Nat) (B : Option Addr) (d : Nat) (V : World) : Prop where
  a : Own 3 intE V (w.heap.size + 5) (fun _ => False) A (badN good k).length c (badN good k)
  b : Own 3 intE V (w.heap.size + 5) (fun _ => False) B (notN x good k).length d (notN x good k)
  ne : ∀ r, ablk A = some r → ablk B ≠ some r
section
variable {w V V' : World} {good : List Bool} {x : Stripe} {k c d c9 : Nat} {A B A9 : Option Addr}
theorem NL.all (h : NL w good x k A c B d V) (hb : Below V.heap.size V V') : NL w good x k A c B d V' := ⟨h.a.all hb, h.b.all hb, h.ne⟩
theorem NL.addA (h : NL w good x k A c B d V) (hgk : good.getD k false = false) (own : Own 3 intE V' (w.heap.size + 5) (fun _ => False) A9 ((badN good k).length + 1) c9 (badN good k ++ [(k : Int)])) (hg : V.grownBy V' (ablk A)) (hat : ablk A9 = ablk A ∨ ablk A9 = some V.heap.size) :
    (badN good (k + 1)).length = (badN good k).length + 1 ∧ (notN x good (k + 1)).length = (notN x good k).length ∧ NL w good x (k + 1) A9 c9 B d V' := by
  have e1 : badN good (k + 1) = badN good k ++ [(k : Int)] := by rw [badN_succ, hgk]; rfl
  have e2 : notN x good (k + 1) = notN x good k := by rw [notN_succ, hgk]; simp
  have hf := h.b.frame (w' := V') (Agree.grown hg (fun b hb e => by
    rcases hb with hb | hb
    · exact hb
    · exact h.ne b e.symm hb.symm)) hg.size
  refine ⟨by rw [e1]; simp, by rw [e2], ⟨by rw [e1]; simpa using own, by rw [e2]; exact hf, fun r hr e => ?_⟩⟩
  rcases hat with ha | ha
  · exact h.ne r (ha ▸ hr) e
  · have := (h.b.lt r e).2
    rw [ha] at hr
    injection hr with hr
    omega
theorem NL.addB (h : NL w good x k A c B d V) (hgk : good.getD k false = true) (own : Own 3 intE V' (w.heap.size + 5) (fun _ => False) A9 ((notN x good k).length + 1) c9 (notN x good k ++ [(x.place.getD k default).disk])) (hg : V.grownBy V' (ablk B)) (hat : ablk A9 = ablk B ∨ ablk A9 = some V.heap.size) :
    (badN good (k + 1)).length = (badN good k).length ∧ (notN x good (k + 1)).length = (notN x good k).length + 1 ∧ NL w good x (k + 1) A c A9 c9 V' := by
  have e1 : badN good (k + 1) = badN good k := by rw [badN_succ, hgk]; simp
  have e2 : notN x good (k + 1) = notN x good k ++ [(x.place.getD k default).disk] := by rw [notN_succ, hgk]; rfl
  have hf := h.a.frame (w' := V') (Agree.grown hg (fun b hb e => by
    rcases hb with hb | hb
    · exact hb
    · exact h.ne b hb.symm e.symm)) hg.size
  refine ⟨by rw [e1], by rw [e2]; simp, ⟨by rw [e1]; exact hf, by rw [e2]; simpa using own, fun r hr e => ?_⟩⟩
  rcases hat with ha | ha
  · exact h.ne r hr (ha ▸ e)
  · have := (h.a.lt r hr).2
    rw [ha] at e
    injection e with e
    omega
end

set_option maxRecDepth 100000 in
set_option maxHeartbeats 16000000 in
theorem Needs_c {tg tg1 tg2 : Bool} {S S1 S2 : Nat → Prop} {w : World} {Ap A0 A1 Ag : Option Addr} {np cp n0 c0 n1 c1 ng cg : Nat} {s : Shape} {x : Stripe} {y : SlotsD} {good : List Bool}
    (hsI : I64 s.K ∧ I64 s.M ∧ I64 s.size) (hxI : I64 x.id ∧ I64 x.len ∧ I64 x.gen) (hp : Sl tg 104 slotE w S Ap np cp x.place)
    (h0 : Sl tg1 4 boolE w S1 A0 n0 c0 y.live) (h1 : Sl tg1 52 (slE tg1 3 intE) w S1 A1 n1 c1 y.free) (hg : Sl tg2 4 boolE w S2 Ag ng cg good) :
    Calls Try.prog 50 #[.agg #[.int .i64 s.K, .int .i64 s.M, .int .i64 s.size], .agg #[.int .i64 x.id, .int .i64 x.len, .int .i64 x.gen, .slice Ap np cp], .agg #[.slice A0 n0 c0, .slice A1 n1 c1], .slice Ag ng cg] w (RetNSE w (needR s x y good)) := by
  obtain ⟨i0, hi0, hz0, hz1, hz2⟩ := info_parts Try.info_Int
  have HL0 := Lib.hid h0.len
  have HL1 := Lib.hid h1.len
  have HLP := Lib.hid hp.len
  have HLG := Lib.hid hg.len
  have hcg : ng ≤ 9223372036854775807 := Nat.le_trans hg.le hg.cap
  have HMAY := Lib.hid (fun W (hW : Below w.heap.size w W) => placeMay_c (s := s) (x := x) hsI hxI (hp.all hW))
  have HSM := Lib.hid (fun W (hW : Below w.heap.size w W) => slotsMay_c (w := W) (h0.all hW) (h1.all hW))
  have HG := Lib.hid (fun W (hW : Below w.heap.size w W) => hg.all hW)
  have HP := Lib.hid (fun W (hW : Below w.heap.size w W) => hp.all hW)
  have HOWN : Hid (∀ W, Below w.heap.size w W → slotsOkB y = true → Calls Try.prog 103 #[.agg #[.slice A0 n0 c0, .slice A1 n1 c1]] W (RetE (slotsDE true) W y)) := Lib.hid (fun W hW hok => by
    have hx := slotsOk_of hok
    have h2 := hx.most
    have h3 := hx.same
    have e0 := HL0.out
    have e1 := HL1.out
    exact Own_c (h0.all hW) (h1.all hW) (by omega) (by omega) (fun l hl => by have := pigeon (hx.free l hl); omega))
  have HOKY := Lib.hid (@slotsOk_of y)
  have hKM : stripeOk s x = true → (x.place.length : Int) = s.K + s.M ∧ 1 ≤ s.K ∧ s.K ≤ 8 ∧ 0 ≤ s.M ∧ s.M ≤ 6 := fun h => by
    unfold stripeOk shapeOk at h
    simp only [Bool.and_eq_true, decide_eq_true_eq] at h
    omega
  have HKM := Lib.hid hKM; clear hKM
  have hbad : ¬ (stripeOk s x = true ∧ slotsOkB y = true ∧ (ng : Int) = s.K + s.M) → needR s x y good = (noNeed, ⟨[], []⟩, 1) := fun h => by unfold needR; rw [HLG.out, if_neg h]
  have hok : stripeOk s x = true ∧ slotsOkB y = true ∧ (ng : Int) = s.K + s.M → needR s x y good = needX s x y good := fun h => by unfold needR; rw [HLG.out, if_pos h]
  have hnx : needX s x y good = if ((notN x good ng).length : Int) < s.K then (noNeed, ⟨[], []⟩, 8)
      else if (badN good ng).length = 0 then (⟨x.id, [], []⟩, y, 0)
      else if takeErr y (badN good ng).length (notN x good ng) = 0 then (⟨x.id, badN good ng, takeL y (badN good ng).length (notN x good ng)⟩, takeX y (badN good ng).length (notN x good ng), 0)
      else (noNeed, ⟨[], []⟩, takeErr y (badN good ng).length (notN x good ng)) := by unfold needX; rw [HLG.out]
  have HNX := Lib.hid hnx; clear hnx
  generalize needR s x y good = R at *
  have HBAD := Lib.hid hbad; clear hbad
  have HOKR := Lib.hid hok; clear hok
  clear h0 h1 hg hp
  generalize hvs : ([.int .i64 s.K, .int .i64 s.M, .int .i64 s.size] : List Value) = vs
  generalize hvx : ([.int .i64 x.id, .int .i64 x.len, .int .i64 x.gen, .slice Ap np cp] : List Value) = vx
  generalize hvy : ([.slice A0 n0 c0, .slice A1 n1 c1] : List Value) = vy
  have hND : ND w vs vx vy (.int .i64 0) (.slice none 0 0) (.slice none 0 0) (.slice none 0 0) (.slice none 0 0) (((((w.alloc (.cells vs.toArray 23)).alloc (.cells vx.toArray 79)).alloc (.cells vy.toArray 62)).alloc (.cells #[.int .i64 0, .slice none 0 0, .slice none 0 0] 88)).alloc (.cells #[.slice none 0 0, .slice none 0 0] 62)) := by
    refine ⟨?_, ?_, ?_, ?_, ?_, (by repeat' (first | (with_reducible exact Below.refl _ _) | (with_reducible refine Below.alloc ?_ ?_ _) | (with_reducible refine Below.drew ?_) | (with_reducible refine below_drewN ?_ _) | (with_reducible refine Below.setCell ?_ ?_ _) | (refine via ?_ (by with_reducible assumption) ?_) | (refine via ?_ (below_ext _ _) ?_) | go_size))⟩
    · rw [Below.heap_alloc _ _ _ (by first | (simp; done) | (simp; omega)), Below.heap_alloc _ _ _ (by first | (simp; done) | (simp; omega)), Below.heap_alloc _ _ _ (by first | (simp; done) | (simp; omega)), Below.heap_alloc _ _ _ (by first | (simp; done) | (simp; omega))]; exact heap_alloc_new _ _
    · rw [Below.heap_alloc _ _ _ (by first | (simp; done) | (simp; omega)), Below.heap_alloc _ _ _ (by first | (simp; done) | (simp; omega)), Below.heap_alloc _ _ _ (by first | (simp; done) | (simp; omega))]
      have := heap_alloc_new (w.alloc (.cells vs.toArray 23)) (.cells vx.toArray 79)
      rw [World.size_alloc] at this; exact this
    · rw [Below.heap_alloc _ _ _ (by first | (simp; done) | (simp; omega)), Below.heap_alloc _ _ _ (by first | (simp; done) | (simp; omega))]
      have := heap_alloc_new ((w.alloc (.cells vs.toArray 23)).alloc (.cells vx.toArray 79)) (.cells vy.toArray 62)
      rw [World.size_alloc, World.size_alloc] at this; exact this
    · rw [Below.heap_alloc _ _ _ (by first | (simp; done) | (simp; omega))]
      have := heap_alloc_new (((w.alloc (.cells vs.toArray 23)).alloc (.cells vx.toArray 79)).alloc (.cells vy.toArray 62)) (.cells #[.int .i64 0, .slice none 0 0, .slice none 0 0] 88)
      rw [World.size_alloc, World.size_alloc, World.size_alloc] at this; exact this
    · have := heap_alloc_new ((((w.alloc (.cells vs.toArray 23)).alloc (.cells vx.toArray 79)).alloc (.cells vy.toArray 62)).alloc (.cells #[.int .i64 0, .slice none 0 0, .slice none 0 0] 88)) (.cells #[.slice none 0 0, .slice none 0 0] 62)
      rw [World.size_alloc, World.size_alloc, World.size_alloc, World.size_alloc] at this; exact this
  subst hvs hvx hvy
  go_enter Try.func50, Try.ntmps50
  go_upto_region 1 with (fail)
  have HN0 := Lib.hid hND; clear hND
  generalize (((((w.alloc (.cells #[.int .i64 s.K, .int .i64 s.M, .int .i64 s.size] 23)).alloc (.cells #[.int .i64 x.id, .int .i64 x.len, .int .i64 x.gen, .slice Ap np cp] 79)).alloc (.cells #[.slice A0 n0 c0, .slice A1 n1 c1] 62)).alloc (.cells #[.int .i64 0, .slice none 0 0, .slice none 0 0] 88)).alloc (.cells #[.slice none 0 0, .slice none 0 0] 62)) = W0 at *
  have ROWS : Hid (∀ u0 u1 u2 v0 v1 V, ND w [.int .i64 s.K, .int .i64 s.M, .int .i64 s.size] [.int .i64 x.id, .int .i64 x.len, .int .i64 x.gen, .slice Ap np cp] [.slice A0 n0 c0, .slice A1 n1 c1] u0 u1 u2 v0 v1 V →
      (V.cell? ⟨w.heap.size, 0, none⟩ = some (.int .i64 s.K) ∧ V.cell? ⟨w.heap.size, 1, none⟩ = some (.int .i64 s.M) ∧ V.cell? ⟨w.heap.size, 2, none⟩ = some (.int .i64 s.size)) ∧
      (V.cell? ⟨w.heap.size + 1, 0, none⟩ = some (.int .i64 x.id) ∧ V.cell? ⟨w.heap.size + 1, 1, none⟩ = some (.int .i64 x.len) ∧ V.cell? ⟨w.heap.size + 1, 2, none⟩ = some (.int .i64 x.gen) ∧ V.cell? ⟨w.heap.size + 1, 3, none⟩ = some (.slice Ap np cp)) ∧
      (V.cell? ⟨w.heap.size + 2, 0, none⟩ = some (.slice A0 n0 c0) ∧ V.cell? ⟨w.heap.size + 2, 1, none⟩ = some (.slice A1 n1 c1))) := Lib.hid (fun _ _ _ _ _ V h =>
    ⟨⟨cell_of_row V _ 0 _ _ _ h.b0, cell_of_row V _ 1 _ _ _ h.b0, cell_of_row V _ 2 _ _ _ h.b0⟩, ⟨cell_of_row V _ 0 _ _ _ h.b1, cell_of_row V _ 1 _ _ _ h.b1, cell_of_row V _ 2 _ _ _ h.b1, cell_of_row V _ 3 _ _ _ h.b1⟩, ⟨cell_of_row V _ 0 _ _ _ h.b2, cell_of_row V _ 1 _ _ _ h.b2⟩⟩)
  obtain ⟨⟨k0, k1, k2⟩, ⟨x0, x1, x2, x3⟩, ⟨y0, y1⟩⟩ := ROWS.out _ _ _ _ _ _ HN0.out
  go_wp2_with fail
  refine (HMAY.out _ HN0.out.below).mono ?_
  clear k0 k1 k2 x0 x1 x2 x3 y0 y1
  rintro e w1 ⟨rfl, hb1⟩
  have HN1 := Lib.hid (HN0.out.all hb1); clear hb1 HN0
  obtain ⟨⟨k0, k1, k2⟩, ⟨x0, x1, x2, x3⟩, ⟨y0, y1⟩⟩ := ROWS.out _ _ _ _ _ _ HN1.out
  cases hs1 : stripeOk s x with
  | false =>
    have HRR : Hid (R = (noNeed, ⟨[], []⟩, 1)) := Lib.hid (HBAD.out (by rw [hs1]; simp))
    clear hs1
    go_wp2_with fail
    refine region_free (by kernel_rfl) (by kernel_rfl) 89 rfl [34, 35, 10] [2, 3] [] [(34, [], fun _ => .agg #[(.int .i64 0), (.slice none 0 0), (.slice none 0 0)]), (35, [], fun _ => .agg #[(.slice none 0 0), (.slice none 0 0)]), (10, [], fun _ => (.int .i64 1))] [] [] [[], [], [34], [35], []] (WdB w1 (fun _ _ _ => True)) (by kernel_rfl) .init ⟨?_, ?_, ?_, ?_, ?_, trivial⟩ ?_
    · (refine OpH.rd rfl rfl (fun ρ us w6 ho ht hc hl hsrc hW => ?_); have e8 := (ho 8 rfl).trans (show _ = (.pointer (some ⟨w.heap.size + 3, 0, none⟩) : Value) from rfl); obtain ⟨y0, y1, y2, _⟩ := (HN1.out.all hW.1).c3; clear ht ho; simp only [execOp, e8]; go_simp; try rfl)
    · (refine OpH.rd rfl rfl (fun ρ us w6 ho ht hc hl hsrc hW => ?_); have e9 := (ho 9 rfl).trans (show _ = (.pointer (some ⟨w.heap.size + 4, 0, none⟩) : Value) from rfl); obtain ⟨y0, y1, _⟩ := (HN1.out.all hW.1).c4; clear ht ho; simp only [execOp, e9]; go_simp; try rfl)
    · refine OpH.wr rfl (fun Z us w6 ho ht hni hlim hreq hW K hK => ?_)
      have eA := (ht 34 (by decide)).trans (show _ = (.agg #[(.int .i64 0), (.slice none 0 0), (.slice none 0 0)] : Value) from rfl)
      have e8 := (ho 8 rfl).trans (show _ = (.pointer (some ⟨w.heap.size + 3, 0, none⟩) : Value) from rfl)
      have hN := HN1.out.all hW.1
      obtain ⟨f0, f1, f2, f3, f4, f5⟩ := hN.c3
      have hs : ((w6.setCell ⟨w.heap.size + 3, 0, none⟩ (.int .i64 0)).setCell ⟨w.heap.size + 3, 1, none⟩ (.slice none 0 0)).setCell ⟨w.heap.size + 3, 2, none⟩ (.slice none 0 0) = w6 := by
        rw [setCell_same (k := 0) (v := (.int .i64 0)) hN.b3 rfl, setCell_same (k := 1) (v := (.slice none 0 0)) hN.b3 rfl, setCell_same (k := 2) (v := (.slice none 0 0)) hN.b3 rfl]
      have HK : Hid (K (Z.put none undef) (((w6.setCell ⟨w.heap.size + 3, 0, none⟩ (.int .i64 0)).setCell ⟨w.heap.size + 3, 1, none⟩ (.slice none 0 0)).setCell ⟨w.heap.size + 3, 2, none⟩ (.slice none 0 0))) := Lib.hid (by rw [hs]; exact hK undef _ (hW.snoc (Below.refl _ _) (fun _ _ _ => trivial) trivial))
      clear hK hW hni hlim hreq ho ht hs hN
      rw [if_pos (by simp [Region.wanted])]
      unfold Oper.wp
      generalize Z.eval = ρ at *
      simp only [execOp, eA, e8]
      go_simp
      exact HK.out
    · refine OpH.wr rfl (fun Z us w6 ho ht hni hlim hreq hW K hK => ?_)
      have eB := (ht 35 (by decide)).trans (show _ = (.agg #[(.slice none 0 0), (.slice none 0 0)] : Value) from rfl)
      have e9 := (ho 9 rfl).trans (show _ = (.pointer (some ⟨w.heap.size + 4, 0, none⟩) : Value) from rfl)
      have hN := HN1.out.all hW.1
      obtain ⟨f0, f1, f2, f3⟩ := hN.c4
      have hs : (w6.setCell ⟨w.heap.size + 4, 0, none⟩ (.slice none 0 0)).setCell ⟨w.heap.size + 4, 1, none⟩ (.slice none 0 0) = w6 := by
        rw [setCell_same (k := 0) (v := (.slice none 0 0)) hN.b4 rfl, setCell_same (k := 1) (v := (.slice none 0 0)) hN.b4 rfl]
      have HK : Hid (K (Z.put none undef) ((w6.setCell ⟨w.heap.size + 4, 0, none⟩ (.slice none 0 0)).setCell ⟨w.heap.size + 4, 1, none⟩ (.slice none 0 0))) := Lib.hid (by rw [hs]; exact hK undef _ (hW.snoc (Below.refl _ _) (fun _ _ _ => trivial) trivial))
      clear hK hW hni hlim hreq ho ht hs hN
      rw [if_pos (by simp [Region.wanted])]
      unfold Oper.wp
      generalize Z.eval = ρ at *
      simp only [execOp, eB, e9]
      go_simp
      exact HK.out
    · (refine OpH.rd rfl rfl (fun ρ us w6 ho ht hc hl hsrc hW => ?_); clear ht ho; simp only [execOp]; go_simp; try rfl)
    · intro us w7 hmem hW
      have hN := HN1.out.all hW.1
      have HFIN : Hid (RetNSE w R (.returned (.tuple #[.agg #[.int .i64 0, .slice none 0 0, .slice none 0 0], .agg #[.slice none 0 0, .slice none 0 0], .int .i64 1])) w7) := Lib.hid (RetNSE.bad HRR.out hN.below)
      obtain ⟨f0, f1, f2, _⟩ := hN.c3
      obtain ⟨f3, f4, _⟩ := hN.c4
      simp only [putAll, List.map_cons, List.map_nil, List.foldl_cons, List.foldl_nil, Act.put, List.setIfInBounds_toArray, List.set_cons_succ, List.set_cons_zero]
      generalize hsv : slotAt _ _ us = sv
      have h10 : sv 10 = (.int .i64 1) := by rw [← hsv]; rfl
      rw [h10]
      clear hsv h10 hmem hW hN
      go_wp2
      refine bodyPost_ret (v := (.tuple #[.agg #[.int .i64 0, .slice none 0 0, .slice none 0 0], .agg #[.slice none 0 0, .slice none 0 0], .int .i64 1])) (by simp [results, Try.results50, go_sem, *]; done) rfl ?_
      exact HFIN.out
  | true =>
    have HS1 := Lib.hid hs1; clear hs1
    obtain ⟨hKM, b1, b2, b3, b4⟩ := HKM.out HS1.out
    rw [HLP.out] at hKM
    go_wp2_with fail
    refine (HSM.out _ HN1.out.below).mono ?_
    clear k0 k1 k2 x0 x1 x2 x3 y0 y1
    rintro e w2 ⟨rfl, hb2⟩
    have HN2 := Lib.hid (HN1.out.all hb2); clear hb2 HN1
    obtain ⟨⟨k0, k1, k2⟩, ⟨x0, x1, x2, x3⟩, ⟨y0, y1⟩⟩ := ROWS.out _ _ _ _ _ _ HN2.out
    cases hs2 : slotsOkB y with
    | false =>
      have HRR : Hid (R = (noNeed, ⟨[], []⟩, 1)) := Lib.hid (HBAD.out (by rw [hs2]; simp))
      clear hs2
      go_wp2_with fail
      refine region_free (by kernel_rfl) (by kernel_rfl) 89 rfl [34, 35, 10] [2, 3] [] [(34, [], fun _ => .agg #[(.int .i64 0), (.slice none 0 0), (.slice none 0 0)]), (35, [], fun _ => .agg #[(.slice none 0 0), (.slice none 0 0)]), (10, [], fun _ => (.int .i64 1))] [] [] [[], [], [34], [35], []] (WdB w2 (fun _ _ _ => True)) (by kernel_rfl) .init ⟨?_, ?_, ?_, ?_, ?_, trivial⟩ ?_
      · (refine OpH.rd rfl rfl (fun ρ us w6 ho ht hc hl hsrc hW => ?_); have e8 := (ho 8 rfl).trans (show _ = (.pointer (some ⟨w.heap.size + 3, 0, none⟩) : Value) from rfl); obtain ⟨y0, y1, y2, _⟩ := (HN2.out.all hW.1).c3; clear ht ho; simp only [execOp, e8]; go_simp; try rfl)
      · (refine OpH.rd rfl rfl (fun ρ us w6 ho ht hc hl hsrc hW => ?_); have e9 := (ho 9 rfl).trans (show _ = (.pointer (some ⟨w.heap.size + 4, 0, none⟩) : Value) from rfl); obtain ⟨y0, y1, _⟩ := (HN2.out.all hW.1).c4; clear ht ho; simp only [execOp, e9]; go_simp; try rfl)
      · refine OpH.wr rfl (fun Z us w6 ho ht hni hlim hreq hW K hK => ?_)
        have eA := (ht 34 (by decide)).trans (show _ = (.agg #[(.int .i64 0), (.slice none 0 0), (.slice none 0 0)] : Value) from rfl)
        have e8 := (ho 8 rfl).trans (show _ = (.pointer (some ⟨w.heap.size + 3, 0, none⟩) : Value) from rfl)
        have hN := HN2.out.all hW.1
        obtain ⟨f0, f1, f2, f3, f4, f5⟩ := hN.c3
        have hs : ((w6.setCell ⟨w.heap.size + 3, 0, none⟩ (.int .i64 0)).setCell ⟨w.heap.size + 3, 1, none⟩ (.slice none 0 0)).setCell ⟨w.heap.size + 3, 2, none⟩ (.slice none 0 0) = w6 := by
          rw [setCell_same (k := 0) (v := (.int .i64 0)) hN.b3 rfl, setCell_same (k := 1) (v := (.slice none 0 0)) hN.b3 rfl, setCell_same (k := 2) (v := (.slice none 0 0)) hN.b3 rfl]
        have HK : Hid (K (Z.put none undef) (((w6.setCell ⟨w.heap.size + 3, 0, none⟩ (.int .i64 0)).setCell ⟨w.heap.size + 3, 1, none⟩ (.slice none 0 0)).setCell ⟨w.heap.size + 3, 2, none⟩ (.slice none 0 0))) := Lib.hid (by rw [hs]; exact hK undef _ (hW.snoc (Below.refl _ _) (fun _ _ _ => trivial) trivial))
        clear hK hW hni hlim hreq ho ht hs hN
        rw [if_pos (by simp [Region.wanted])]
        unfold Oper.wp
        generalize Z.eval = ρ at *
        simp only [execOp, eA, e8]
        go_simp
        exact HK.out
      · refine OpH.wr rfl (fun Z us w6 ho ht hni hlim hreq hW K hK => ?_)
        have eB := (ht 35 (by decide)).trans (show _ = (.agg #[(.slice none 0 0), (.slice none 0 0)] : Value) from rfl)
        have e9 := (ho 9 rfl).trans (show _ = (.pointer (some ⟨w.heap.size + 4, 0, none⟩) : Value) from rfl)
        have hN := HN2.out.all hW.1
        obtain ⟨f0, f1, f2, f3⟩ := hN.c4
        have hs : (w6.setCell ⟨w.heap.size + 4, 0, none⟩ (.slice none 0 0)).setCell ⟨w.heap.size + 4, 1, none⟩ (.slice none 0 0) = w6 := by
          rw [setCell_same (k := 0) (v := (.slice none 0 0)) hN.b4 rfl, setCell_same (k := 1) (v := (.slice none 0 0)) hN.b4 rfl]
        have HK : Hid (K (Z.put none undef) ((w6.setCell ⟨w.heap.size + 4, 0, none⟩ (.slice none 0 0)).setCell ⟨w.heap.size + 4, 1, none⟩ (.slice none 0 0))) := Lib.hid (by rw [hs]; exact hK undef _ (hW.snoc (Below.refl _ _) (fun _ _ _ => trivial) trivial))
        clear hK hW hni hlim hreq ho ht hs hN
        rw [if_pos (by simp [Region.wanted])]
        unfold Oper.wp
        generalize Z.eval = ρ at *
        simp only [execOp, eB, e9]
        go_simp
        exact HK.out
      · (refine OpH.rd rfl rfl (fun ρ us w6 ho ht hc hl hsrc hW => ?_); clear ht ho; simp only [execOp]; go_simp; try rfl)
      · intro us w7 hmem hW
        have hN := HN2.out.all hW.1
        have HFIN : Hid (RetNSE w R (.returned (.tuple #[.agg #[.int .i64 0, .slice none 0 0, .slice none 0 0], .agg #[.slice none 0 0, .slice none 0 0], .int .i64 1])) w7) := Lib.hid (RetNSE.bad HRR.out hN.below)
        obtain ⟨f0, f1, f2, _⟩ := hN.c3
        obtain ⟨f3, f4, _⟩ := hN.c4
        simp only [putAll, List.map_cons, List.map_nil, List.foldl_cons, List.foldl_nil, Act.put, List.setIfInBounds_toArray, List.set_cons_succ, List.set_cons_zero]
        generalize hsv : slotAt _ _ us = sv
        have h10 : sv 10 = (.int .i64 1) := by rw [← hsv]; rfl
        rw [h10]
        clear hsv h10 hmem hW hN
        go_wp2
        refine bodyPost_ret (v := (.tuple #[.agg #[.int .i64 0, .slice none 0 0, .slice none 0 0], .agg #[.slice none 0 0, .slice none 0 0], .int .i64 1])) (by simp [results, Try.results50, go_sem, *]; done) rfl ?_
        exact HFIN.out
    | true =>
      have HS2 := Lib.hid hs2; clear hs2
      by_cases h3 : (ng : Int) = s.K + s.M
      · have HRR := Lib.hid ((HOKR.out ⟨HS1.out, HS2.out, h3⟩).trans HNX.out)
        have hne : ((ng : Int) != s.K + s.M) = false := by simp [h3]
        have hgp : ng = np := by omega
        have hng : ng ≤ 14 := by omega
        clear h3
        go_upto_region 3 with (fail)
        clear k0 k1 k2 x0 x1 x2 x3 y0 y1 hne
        go_wp2_with fail
        go_loopw [11, 12, 38] (fun bb nn i wr => ∃ k : Nat, ∃ A c B d, k ≤ ng ∧ i = .int .i64 k ∧ bb = .slice A (badN good k).length c ∧ nn = .slice B (notN x good k).length d ∧ Hid (NL w good x k A c B d wr) ∧ Hid (ND w [.int .i64 s.K, .int .i64 s.M, .int .i64 s.size] [.int .i64 x.id, .int .i64 x.len, .int .i64 x.gen, .slice Ap np cp] [.slice A0 n0 c0, .slice A1 n1 c1] (.int .i64 0) (.slice none 0 0) (.slice none 0 0) (.slice none 0 0) (.slice none 0 0) wr)) (fun _ _ i _ => ng - (intOf i).toNat)
        case atStart => exact ⟨0, none, 0, none, 0, Nat.zero_le _, rfl, rfl, rfl, Lib.hid ⟨Own.nil_, Own.nil_, fun r h => by cases h⟩, HN2⟩
        case round =>
          clear HN2
          obtain ⟨k, A, c, B, d, hk, rfl, rfl, rfl, HL, HN⟩ := hrel
          have hbl := badN_le good k
          have hnl := notN_le x good k
          have hhi := HN.out.hi
          by_cases hlt : k < ng
          · obtain ⟨bg, og, rfl, _, hblg, hv, _⟩ := (HG.out wr HN.out.below).bool_at hlt
            cases hgk : good.getD k false with
            | true =>
              rw [hgk] at hv
              obtain ⟨⟨k0, k1, k2⟩, ⟨x0, x1, x2, x3⟩, ⟨y0, y1⟩⟩ := ROWS.out _ _ _ _ _ _ HN.out
              obtain ⟨bp, op, rfl, _, hblp, j1, j2, hp0, hp1, _⟩ := (HP.out wr HN.out.below).slot_at (show k < np by omega)
              have HGK := Lib.hid hgk; clear hgk
              generalize hdk : (x.place.getD k default).disk = v at *
              have HDK := Lib.hid hdk; clear hdk
              have HL2 := Lib.hid (HL.out.all ((Below.refl _ _).alloc (Nat.le_refl _) (.cells #[.int .i64 v] 3)))
              have HN3 := Lib.hid (HN.out.all ((Below.refl _ _).alloc (Nat.le_refl _) (.cells #[.int .i64 v] 3)))
              go_wp2_with (at_builtin; refine wpList_append1 rfl _ _ 52 rfl i0 (.int .i64 0) 8 Try.underlying52 hi0 hz0 hz1 hz2 rfl (by decide) rfl HL2.out.b wr.heap.size 3 1 _ v rfl (heap_alloc_new _ _) ⟨rfl, j1⟩ (by omega) (by omega) (by simp; omega) ?_)
              intro A9 c9 w4 hown4 hg4 hat4
              rw [← HDK.out] at hown4
              obtain ⟨e1, e2, hL⟩ := HL2.out.addB HGK.out hown4 hg4 (by rw [World.size_alloc]; exact hat4)
              have HL5 := Lib.hid hL; clear hL hown4 hat4
              have HN5 := Lib.hid (HN3.out.grown hg4 (fun r hr => (HL2.out.b.lt r hr).1)); clear hg4
              have E1 := Lib.hid e1; clear e1
              have E2 := Lib.hid e2; clear e2
              clear k0 k1 k2 x0 x1 x2 x3 y0 y1 hp0 hp1 hv
              go_wp2
              go_roundw
              case rel => exact ⟨k + 1, _, _, _, _, by omega, by go_num, by rw [E1.out], by rw [E2.out], HL5, HN5⟩
              case measure => simp [intOf]; omega
            | false =>
              rw [hgk] at hv
              have HGK := Lib.hid hgk; clear hgk
              have HL2 := Lib.hid (HL.out.all ((Below.refl _ _).alloc (Nat.le_refl _) (.cells #[.int .i64 (k : Int)] 3)))
              have HN3 := Lib.hid (HN.out.all ((Below.refl _ _).alloc (Nat.le_refl _) (.cells #[.int .i64 (k : Int)] 3)))
              go_wp2_with (at_builtin; refine wpList_append1 rfl _ _ 52 rfl i0 (.int .i64 0) 8 Try.underlying52 hi0 hz0 hz1 hz2 rfl (by decide) rfl HL2.out.a wr.heap.size 3 1 _ (k : Int) rfl (heap_alloc_new _ _) ⟨rfl, by constructor <;> omega⟩ (by omega) (by omega) (by simp; omega) ?_)
              intro A9 c9 w4 hown4 hg4 hat4
              obtain ⟨e1, e2, hL⟩ := HL2.out.addA HGK.out hown4 hg4 (by rw [World.size_alloc]; exact hat4)
              have HL5 := Lib.hid hL; clear hL hown4 hat4
              have HN5 := Lib.hid (HN3.out.grown hg4 (fun r hr => (HL2.out.a.lt r hr).1)); clear hg4
              have E1 := Lib.hid e1; clear e1
              have E2 := Lib.hid e2; clear e2
              clear hv
              go_wp2
              go_roundw
              case rel => exact ⟨k + 1, _, _, _, _, by omega, by go_num, by rw [E1.out], by rw [E2.out], HL5, HN5⟩
              case measure => simp [intOf]; omega
          · obtain rfl : ng = k := by omega
            have HB0 := Lib.hid (HL.out.a.sl (tg := true))
            have HB1 := Lib.hid (HL.out.b.sl (tg := true))
            clear HL
            generalize hnn : (notN x good ng).length = nn at *
            generalize hbb : (badN good ng).length = bb at *
            have HNN := Lib.hid hnn; clear hnn
            have HBB := Lib.hid hbb; clear hbb
            obtain ⟨⟨k0, k1, k2⟩, ⟨x0, x1, x2, x3⟩, ⟨y0, y1⟩⟩ := ROWS.out _ _ _ _ _ _ HN.out
            by_cases h4 : (nn : Int) < s.K
            · have HR1 : Hid (R = (noNeed, ⟨[], []⟩, 8)) := Lib.hid (HRR.out.trans (if_pos h4))
              go_wp2_with fail
              refine region_free (by kernel_rfl) (by kernel_rfl) 89 rfl [63, 64, 10] [2, 3] [] [(63, [], fun _ => .agg #[(.int .i64 0), (.slice none 0 0), (.slice none 0 0)]), (64, [], fun _ => .agg #[(.slice none 0 0), (.slice none 0 0)]), (10, [], fun _ => (.int .i64 8))] [] [] [[], [], [63], [64], []] (WdB wr (fun _ _ _ => True)) (by kernel_rfl) .init ⟨?_, ?_, ?_, ?_, ?_, trivial⟩ ?_
              · (refine OpH.rd rfl rfl (fun ρ us w6 ho ht hc hl hsrc hW => ?_); have e8 := (ho 8 rfl).trans (show _ = (.pointer (some ⟨w.heap.size + 3, 0, none⟩) : Value) from rfl); obtain ⟨y0, y1, y2, _⟩ := (HN.out.all hW.1).c3; clear ht ho; simp only [execOp, e8]; go_simp; try rfl)
              · (refine OpH.rd rfl rfl (fun ρ us w6 ho ht hc hl hsrc hW => ?_); have e9 := (ho 9 rfl).trans (show _ = (.pointer (some ⟨w.heap.size + 4, 0, none⟩) : Value) from rfl); obtain ⟨y0, y1, _⟩ := (HN.out.all hW.1).c4; clear ht ho; simp only [execOp, e9]; go_simp; try rfl)
              · refine OpH.wr rfl (fun Z us w6 ho ht hni hlim hreq hW K hK => ?_)
                have eA := (ht 63 (by decide)).trans (show _ = (.agg #[(.int .i64 0), (.slice none 0 0), (.slice none 0 0)] : Value) from rfl)
                have e8 := (ho 8 rfl).trans (show _ = (.pointer (some ⟨w.heap.size + 3, 0, none⟩) : Value) from rfl)
                have hN := HN.out.all hW.1
                obtain ⟨f0, f1, f2, f3, f4, f5⟩ := hN.c3
                have hs : ((w6.setCell ⟨w.heap.size + 3, 0, none⟩ (.int .i64 0)).setCell ⟨w.heap.size + 3, 1, none⟩ (.slice none 0 0)).setCell ⟨w.heap.size + 3, 2, none⟩ (.slice none 0 0) = w6 := by
                  rw [setCell_same (k := 0) (v := (.int .i64 0)) hN.b3 rfl, setCell_same (k := 1) (v := (.slice none 0 0)) hN.b3 rfl, setCell_same (k := 2) (v := (.slice none 0 0)) hN.b3 rfl]
                have HK : Hid (K (Z.put none undef) (((w6.setCell ⟨w.heap.size + 3, 0, none⟩ (.int .i64 0)).setCell ⟨w.heap.size + 3, 1, none⟩ (.slice none 0 0)).setCell ⟨w.heap.size + 3, 2, none⟩ (.slice none 0 0))) := Lib.hid (by rw [hs]; exact hK undef _ (hW.snoc (Below.refl _ _) (fun _ _ _ => trivial) trivial))
                clear hK hW hni hlim hreq ho ht hs hN
                rw [if_pos (by simp [Region.wanted])]
                unfold Oper.wp
                generalize Z.eval = ρ at *
                simp only [execOp, eA, e8]
                go_simp
                exact HK.out
              · refine OpH.wr rfl (fun Z us w6 ho ht hni hlim hreq hW K hK => ?_)
                have eB := (ht 64 (by decide)).trans (show _ = (.agg #[(.slice none 0 0), (.slice none 0 0)] : Value) from rfl)
                have e9 := (ho 9 rfl).trans (show _ = (.pointer (some ⟨w.heap.size + 4, 0, none⟩) : Value) from rfl)
                have hN := HN.out.all hW.1
                obtain ⟨f0, f1, f2, f3⟩ := hN.c4
                have hs : (w6.setCell ⟨w.heap.size + 4, 0, none⟩ (.slice none 0 0)).setCell ⟨w.heap.size + 4, 1, none⟩ (.slice none 0 0) = w6 := by
                  rw [setCell_same (k := 0) (v := (.slice none 0 0)) hN.b4 rfl, setCell_same (k := 1) (v := (.slice none 0 0)) hN.b4 rfl]
                have HK : Hid (K (Z.put none undef) ((w6.setCell ⟨w.heap.size + 4, 0, none⟩ (.slice none 0 0)).setCell ⟨w.heap.size + 4, 1, none⟩ (.slice none 0 0))) := Lib.hid (by rw [hs]; exact hK undef _ (hW.snoc (Below.refl _ _) (fun _ _ _ => trivial) trivial))
                clear hK hW hni hlim hreq ho ht hs hN
                rw [if_pos (by simp [Region.wanted])]
                unfold Oper.wp
                generalize Z.eval = ρ at *
                simp only [execOp, eB, e9]
                go_simp
                exact HK.out
              · (refine OpH.rd rfl rfl (fun ρ us w6 ho ht hc hl hsrc hW => ?_); clear ht ho; simp only [execOp]; go_simp; try rfl)
              · intro us w7 hmem hW
                have hN := HN.out.all hW.1
                have HFIN : Hid (RetNSE w R (.returned (.tuple #[.agg #[.int .i64 0, .slice none 0 0, .slice none 0 0], .agg #[.slice none 0 0, .slice none 0 0], .int .i64 8])) w7) := Lib.hid (RetNSE.bad HR1.out hN.below)
                obtain ⟨f0, f1, f2, _⟩ := hN.c3
                obtain ⟨f3, f4, _⟩ := hN.c4
                simp only [putAll, List.map_cons, List.map_nil, List.foldl_cons, List.foldl_nil, Act.put, List.setIfInBounds_toArray, List.set_cons_succ, List.set_cons_zero]
                generalize hsv : slotAt _ _ us = sv
                have h10 : sv 10 = (.int .i64 8) := by rw [← hsv]; rfl
                rw [h10]
                clear hsv h10 hmem hW hN
                go_wp2
                refine bodyPost_ret (v := (.tuple #[.agg #[.int .i64 0, .slice none 0 0, .slice none 0 0], .agg #[.slice none 0 0, .slice none 0 0], .int .i64 8])) (by simp [results, Try.results50, go_sem, *]; done) rfl ?_
                exact HFIN.out
            · have HR2 := Lib.hid (HRR.out.trans (if_neg h4))
              have hown := HOWN.out wr HN.out.below HS2.out
              go_wp2_with fail
              refine hown.mono ?_
              clear hown k0 k1 k2 x0 x1 x2 x3 y0 y1
              rintro e w4 ⟨vs, rfl, ⟨C0, m0, d0, C1, m1, d1, rfl, _, hs0, hs1⟩, hb4⟩
              have s4 := hb4.size
              have HN4 := Lib.hid (HN.out.all hb4)
              have HN5 := Lib.hid (HN4.out.st4 (p := .slice C0 m0 d0) (q := .slice C1 m1 d1))
              have hk : Keeps (fun b => w.heap.size + 5 ≤ b) w4 ((w4.setCell ⟨w.heap.size + 4, 0, none⟩ (.slice C0 m0 d0)).setCell ⟨w.heap.size + 4, 1, none⟩ (.slice C1 m1 d1)) := (by repeat' (first | (with_reducible exact Keeps.refl _ _) | (with_reducible refine Keeps.alloc ?_ _) | (with_reducible refine Keeps.drew ?_) | (with_reducible refine Keeps.drewN ?_ _) | (with_reducible refine Keeps.setCell ?_ ?_ _) | (refine Keeps.call ?_ (by with_reducible assumption)) | (with_reducible refine Keeps.ext ?_ _) | (simp; done) | (simp; omega) | omega))
              have HS0 := Lib.hid ((hs0.mono (S' := fun b => w.heap.size + 5 ≤ b) (fun b hb _ => by have : wr.heap.size ≤ b := hb; omega)).keep hk); clear hs0
              have HS1' := Lib.hid ((hs1.mono (S' := fun b => w.heap.size + 5 ≤ b) (fun b hb _ => by have : wr.heap.size ≤ b := hb; omega)).keep hk); clear hs1
              have HB2 := Lib.hid (((HB0.out.all hb4).mono (S' := fun b => w.heap.size + 5 ≤ b) (fun b hb _ => by rcases hb with hb | hb; exact hb.elim; exact hb)).keep hk)
              have HB3 := Lib.hid (((HB1.out.all hb4).mono (S' := fun b => w.heap.size + 5 ≤ b) (fun b hb _ => by rcases hb with hb | hb; exact hb.elim; exact hb)).keep hk)
              clear hk HB0 HB1 hb4
              obtain ⟨f0, f1, f2, f3⟩ := HN4.out.c4
              go_upto_region 14 with (fail)
              clear f0 f1 f2 f3 HN4 HN
              generalize ((w4.setCell ⟨w.heap.size + 4, 0, none⟩ (.slice C0 m0 d0)).setCell ⟨w.heap.size + 4, 1, none⟩ (.slice C1 m1 d1)) = w5 at *
              have HN6 := Lib.hid (HN5.out.st3 (p := .int .i64 x.id) (q := .slice A bb c) (r := .slice none 0 0))
              have hk : Keeps (fun b => w.heap.size + 5 ≤ b) w5 (((w5.setCell ⟨w.heap.size + 3, 0, none⟩ (.int .i64 x.id)).setCell ⟨w.heap.size + 3, 1, none⟩ (.slice A bb c)).setCell ⟨w.heap.size + 3, 2, none⟩ (.slice none 0 0)) := (by repeat' (first | (with_reducible exact Keeps.refl _ _) | (with_reducible refine Keeps.alloc ?_ _) | (with_reducible refine Keeps.drew ?_) | (with_reducible refine Keeps.drewN ?_ _) | (with_reducible refine Keeps.setCell ?_ ?_ _) | (refine Keeps.call ?_ (by with_reducible assumption)) | (with_reducible refine Keeps.ext ?_ _) | (simp; done) | (simp; omega) | omega))
              have HT0 := Lib.hid (HS0.out.keep hk); clear HS0
              have HT1 := Lib.hid (HS1'.out.keep hk); clear HS1'
              have HB4 := Lib.hid (HB2.out.keep hk); clear HB2
              have HB5 := Lib.hid (HB3.out.keep hk); clear HB3
              clear hk
              obtain ⟨f0, f1, f2, f3, f4, f5⟩ := HN5.out.c3
              obtain ⟨_, ⟨x0, x1, x2, x3⟩, _⟩ := ROWS.out _ _ _ _ _ _ HN5.out
              go_upto_region 15 with (fail)
              clear f0 f1 f2 f3 f4 f5 x0 x1 x2 x3 HN5
              generalize (((w5.setCell ⟨w.heap.size + 3, 0, none⟩ (.int .i64 x.id)).setCell ⟨w.heap.size + 3, 1, none⟩ (.slice A bb c)).setCell ⟨w.heap.size + 3, 2, none⟩ (.slice none 0 0)) = w6 at *
              by_cases h5 : bb = 0
              · subst h5
                have HR3 := Lib.hid (HR2.out.trans (if_pos (by rfl)))
                have HNIL : Hid (badN good ng = []) := Lib.hid (List.eq_nil_of_length_eq_zero HBB.out)
                go_wp2_with fail
                refine region_free (by kernel_rfl) (by kernel_rfl) 89 rfl [87, 88, 10] [2, 3] [] [(87, [], fun _ => .agg #[(.int .i64 x.id), (.slice A 0 c), (.slice none 0 0)]), (88, [], fun _ => .agg #[(.slice C0 m0 d0), (.slice C1 m1 d1)]), (10, [], fun _ => (.int .i64 0))] [] [] [[], [], [87], [88], []] (WdB w6 (fun _ _ _ => True)) (by kernel_rfl) .init ⟨?_, ?_, ?_, ?_, ?_, trivial⟩ ?_
                · (refine OpH.rd rfl rfl (fun ρ us w6 ho ht hc hl hsrc hW => ?_); have e8 := (ho 8 rfl).trans (show _ = (.pointer (some ⟨w.heap.size + 3, 0, none⟩) : Value) from rfl); obtain ⟨y0, y1, y2, _⟩ := (HN6.out.all hW.1).c3; clear ht ho; simp only [execOp, e8]; go_simp; try rfl)
                · (refine OpH.rd rfl rfl (fun ρ us w6 ho ht hc hl hsrc hW => ?_); have e9 := (ho 9 rfl).trans (show _ = (.pointer (some ⟨w.heap.size + 4, 0, none⟩) : Value) from rfl); obtain ⟨y0, y1, _⟩ := (HN6.out.all hW.1).c4; clear ht ho; simp only [execOp, e9]; go_simp; try rfl)
                · refine OpH.wr rfl (fun Z us w6 ho ht hni hlim hreq hW K hK => ?_)
                  have eA := (ht 87 (by decide)).trans (show _ = (.agg #[(.int .i64 x.id), (.slice A 0 c), (.slice none 0 0)] : Value) from rfl)
                  have e8 := (ho 8 rfl).trans (show _ = (.pointer (some ⟨w.heap.size + 3, 0, none⟩) : Value) from rfl)
                  have hN := HN6.out.all hW.1
                  obtain ⟨f0, f1, f2, f3, f4, f5⟩ := hN.c3
                  have hs : ((w6.setCell ⟨w.heap.size + 3, 0, none⟩ (.int .i64 x.id)).setCell ⟨w.heap.size + 3, 1, none⟩ (.slice A 0 c)).setCell ⟨w.heap.size + 3, 2, none⟩ (.slice none 0 0) = w6 := by
                    rw [setCell_same (k := 0) (v := (.int .i64 x.id)) hN.b3 rfl, setCell_same (k := 1) (v := (.slice A 0 c)) hN.b3 rfl, setCell_same (k := 2) (v := (.slice none 0 0)) hN.b3 rfl]
                  have HK : Hid (K (Z.put none undef) (((w6.setCell ⟨w.heap.size + 3, 0, none⟩ (.int .i64 x.id)).setCell ⟨w.heap.size + 3, 1, none⟩ (.slice A 0 c)).setCell ⟨w.heap.size + 3, 2, none⟩ (.slice none 0 0))) := Lib.hid (by rw [hs]; exact hK undef _ (hW.snoc (Below.refl _ _) (fun _ _ _ => trivial) trivial))
                  clear hK hW hni hlim hreq ho ht hs hN
                  rw [if_pos (by simp [Region.wanted])]
                  unfold Oper.wp
                  generalize Z.eval = ρ at *
                  simp only [execOp, eA, e8]
                  go_simp
                  exact HK.out
                · refine OpH.wr rfl (fun Z us w6 ho ht hni hlim hreq hW K hK => ?_)
                  have eB := (ht 88 (by decide)).trans (show _ = (.agg #[(.slice C0 m0 d0), (.slice C1 m1 d1)] : Value) from rfl)
                  have e9 := (ho 9 rfl).trans (show _ = (.pointer (some ⟨w.heap.size + 4, 0, none⟩) : Value) from rfl)
                  have hN := HN6.out.all hW.1
                  obtain ⟨f0, f1, f2, f3⟩ := hN.c4
                  have hs : (w6.setCell ⟨w.heap.size + 4, 0, none⟩ (.slice C0 m0 d0)).setCell ⟨w.heap.size + 4, 1, none⟩ (.slice C1 m1 d1) = w6 := by
                    rw [setCell_same (k := 0) (v := (.slice C0 m0 d0)) hN.b4 rfl, setCell_same (k := 1) (v := (.slice C1 m1 d1)) hN.b4 rfl]
                  have HK : Hid (K (Z.put none undef) ((w6.setCell ⟨w.heap.size + 4, 0, none⟩ (.slice C0 m0 d0)).setCell ⟨w.heap.size + 4, 1, none⟩ (.slice C1 m1 d1))) := Lib.hid (by rw [hs]; exact hK undef _ (hW.snoc (Below.refl _ _) (fun _ _ _ => trivial) trivial))
                  clear hK hW hni hlim hreq ho ht hs hN
                  rw [if_pos (by simp [Region.wanted])]
                  unfold Oper.wp
                  generalize Z.eval = ρ at *
                  simp only [execOp, eB, e9]
                  go_simp
                  exact HK.out
                · (refine OpH.rd rfl rfl (fun ρ us w6 ho ht hc hl hsrc hW => ?_); clear ht ho; simp only [execOp]; go_simp; try rfl)
                · intro us w7 hmem hW
                  have hN := HN6.out.all hW.1
                  have HFIN : Hid (RetNSE w R (.returned (.tuple #[.agg #[.int .i64 x.id, .slice A 0 c, .slice none 0 0], .agg #[.slice C0 m0 d0, .slice C1 m1 d1], .int .i64 0])) w7) := Lib.hid (by rw [HR3.out]; exact ⟨_, _, _, _, _, _, _, _, _, _, _, _, rfl, (HNIL.out ▸ HB4.out.all hW.1).mono (fun b hb _ => by have : _ ≤ b := hb; omega), Sl.nil_ (by decide), (HT0.out.all hW.1).mono (fun b hb _ => by have : _ ≤ b := hb; omega), (HT1.out.all hW.1).mono (fun b hb _ => by have : _ ≤ b := hb; omega), hN.below⟩)
                  obtain ⟨f0, f1, f2, _⟩ := hN.c3
                  obtain ⟨f3, f4, _⟩ := hN.c4
                  simp only [putAll, List.map_cons, List.map_nil, List.foldl_cons, List.foldl_nil, Act.put, List.setIfInBounds_toArray, List.set_cons_succ, List.set_cons_zero]
                  generalize hsv : slotAt _ _ us = sv
                  have h10 : sv 10 = (.int .i64 0) := by rw [← hsv]; rfl
                  rw [h10]
                  clear hsv h10 hmem hW hN
                  go_wp2
                  refine bodyPost_ret (v := (.tuple #[.agg #[.int .i64 x.id, .slice A 0 c, .slice none 0 0], .agg #[.slice C0 m0 d0, .slice C1 m1 d1], .int .i64 0])) (by simp [results, Try.results50, go_sem, *]; done) rfl ?_
                  exact HFIN.out
              · have HR3 := Lib.hid (HR2.out.trans (if_neg h5))
                have hyo := HOKY.out HS2.out
                have hsome := Some_c (n := bb) HN6.out.b4 HT0.out HT1.out HB5.out (by omega) (by have := hyo.most; have := HT0.out.len; omega) (by have := hyo.same; have := HT0.out.len; have := HT1.out.len; omega)
                have HSOME := Lib.hid hsome; clear hsome hyo
                go_wp2_with fail
                refine HSOME.out.mono ?_
                clear HSOME
                rintro e w7 hpost
                rcases hpost with ⟨hne, rfl, hb7⟩ | ⟨heq, A5, c5, rfl, hl, hown, hfree, hT⟩
                · have HRX : Hid (R = (noNeed, ⟨[], []⟩, takeErr y bb (notN x good ng))) := Lib.hid (HR3.out.trans (if_neg hne))
                  have HN7 := Lib.hid (HN6.out.all hb7)
                  have HN8 := Lib.hid (HN7.out.last (r := .slice none 0 0))
                  obtain ⟨f0, f1, f2, f3, f4, f5⟩ := HN7.out.c3
                  clear hb7 HN6 HR3 HR2 HRR HNX
                  generalize takeErr y bb (notN x good ng) = er at *
                  have hnz : (er != 0) = true := by simpa using hne
                  clear hne
                  go_upto_region 17 with (fail)
                  clear f0 f1 f2 f3 f4 f5 HN7
                  generalize (w7.setCell ⟨w.heap.size + 3, 2, none⟩ (.slice none 0 0)) = w8 at *
                  obtain ⟨f0, f1, f2, f3, f4, f5⟩ := HN8.out.c3
                  obtain ⟨g0, g1, g2, g3⟩ := HN8.out.c4
                  have HFIN : Hid (RetNSE w R (.returned (.tuple #[.agg #[.int .i64 0, .slice none 0 0, .slice none 0 0], .agg #[.slice none 0 0, .slice none 0 0], .int .i64 er])) (((((w8.setCell ⟨w.heap.size + 3, 0, none⟩ (.int .i64 0)).setCell ⟨w.heap.size + 3, 1, none⟩ (.slice none 0 0)).setCell ⟨w.heap.size + 3, 2, none⟩ (.slice none 0 0)).setCell ⟨w.heap.size + 4, 0, none⟩ (.slice none 0 0)).setCell ⟨w.heap.size + 4, 1, none⟩ (.slice none 0 0))) := Lib.hid (RetNSE.bad HRX.out ((HN8.out.st3 (p := .int .i64 0) (q := .slice none 0 0) (r := .slice none 0 0)).st4 (p := .slice none 0 0) (q := .slice none 0 0)).below)
                  go_wp2
                  refine bodyPost_ret (v := (.tuple #[.agg #[.int .i64 0, .slice none 0 0, .slice none 0 0], .agg #[.slice none 0 0, .slice none 0 0], .int .i64 er])) (by simp [results, Try.results50, go_sem, *]; done) rfl ?_
                  exact HFIN.out
                · have HRX : Hid (R = (⟨x.id, badN good ng, takeL y bb (notN x good ng)⟩, takeX y bb (notN x good ng), 0)) := Lib.hid (HR3.out.trans (if_pos heq))
                  have hhi6 := HN6.out.hi
                  have hout : ∀ b, b < w.heap.size + 5 → w7.heap[b]? = w6.heap[b]? := fun b hb => hT.block b (by omega) (.inl (by show ¬ w.heap.size + 5 ≤ b; omega))
                  have hB7 : Below w.heap.size w w7 := HN6.out.below.trans ((hT.below (B := w.heap.size + 5) (by omega) (fun b hb => hb)).mono (by omega))
                  have HN7 := Lib.hid (HN6.out.frame (fun b hb => hout b (by omega)) hB7)
                  have HN8 := Lib.hid (HN7.out.last (r := .slice A5 bb c5))
                  have hk : Keeps (fun b => w.heap.size + 5 ≤ b) w7 (w7.setCell ⟨w.heap.size + 3, 2, none⟩ (.slice A5 bb c5)) := (by repeat' (first | (with_reducible exact Keeps.refl _ _) | (with_reducible refine Keeps.alloc ?_ _) | (with_reducible refine Keeps.drew ?_) | (with_reducible refine Keeps.drewN ?_ _) | (with_reducible refine Keeps.setCell ?_ ?_ _) | (refine Keeps.call ?_ (by with_reducible assumption)) | (with_reducible refine Keeps.ext ?_ _) | (simp; done) | (simp; omega) | omega))
                  have HC0 := Lib.hid ((hT.sl (boolE_avoids _) (by decide) HT0.out).keep hk)
                  have HC1 := Lib.hid (hfree.keep hk)
                  have HCB := Lib.hid ((hT.sl (intE_avoids _) (by decide) HB4.out).keep hk)
                  have HCL := Lib.hid (((hown.sl (tg := true)).mono (S' := fun b => w.heap.size + 5 ≤ b) (fun b hb _ => by have : w6.heap.size ≤ b := hb.elim id id; omega)).keep hk)
                  obtain ⟨f0, f1, f2, f3, f4, f5⟩ := HN7.out.c3
                  clear hk hown hfree hT hout hB7 HT0 HT1 HB4 HB5 hl heq HN6
                  go_upto_region 17 with (fail)
                  clear f0 f1 f2 f3 f4 f5 HN7
                  generalize (w7.setCell ⟨w.heap.size + 3, 2, none⟩ (.slice A5 bb c5)) = w8 at *
                  go_wp2_with fail
                  refine region_free (by kernel_rfl) (by kernel_rfl) 89 rfl [87, 88, 10] [2, 3] [] [(87, [], fun _ => .agg #[(.int .i64 x.id), (.slice A bb c), (.slice A5 bb c5)]), (88, [], fun _ => .agg #[(.slice C0 m0 d0), (.slice C1 m1 d1)]), (10, [], fun _ => (.int .i64 0))] [] [] [[], [], [87], [88], []] (WdB w8 (fun _ _ _ => True)) (by kernel_rfl) .init ⟨?_, ?_, ?_, ?_, ?_, trivial⟩ ?_
                  · (refine OpH.rd rfl rfl (fun ρ us w6 ho ht hc hl hsrc hW => ?_); have e8 := (ho 8 rfl).trans (show _ = (.pointer (some ⟨w.heap.size + 3, 0, none⟩) : Value) from rfl); obtain ⟨y0, y1, y2, _⟩ := (HN8.out.all hW.1).c3; clear ht ho; simp only [execOp, e8]; go_simp; try rfl)
                  · (refine OpH.rd rfl rfl (fun ρ us w6 ho ht hc hl hsrc hW => ?_); have e9 := (ho 9 rfl).trans (show _ = (.pointer (some ⟨w.heap.size + 4, 0, none⟩) : Value) from rfl); obtain ⟨y0, y1, _⟩ := (HN8.out.all hW.1).c4; clear ht ho; simp only [execOp, e9]; go_simp; try rfl)
                  · refine OpH.wr rfl (fun Z us w6 ho ht hni hlim hreq hW K hK => ?_)
                    have eA := (ht 87 (by decide)).trans (show _ = (.agg #[(.int .i64 x.id), (.slice A bb c), (.slice A5 bb c5)] : Value) from rfl)
                    have e8 := (ho 8 rfl).trans (show _ = (.pointer (some ⟨w.heap.size + 3, 0, none⟩) : Value) from rfl)
                    have hN := HN8.out.all hW.1
                    obtain ⟨f0, f1, f2, f3, f4, f5⟩ := hN.c3
                    have hs : ((w6.setCell ⟨w.heap.size + 3, 0, none⟩ (.int .i64 x.id)).setCell ⟨w.heap.size + 3, 1, none⟩ (.slice A bb c)).setCell ⟨w.heap.size + 3, 2, none⟩ (.slice A5 bb c5) = w6 := by
                      rw [setCell_same (k := 0) (v := (.int .i64 x.id)) hN.b3 rfl, setCell_same (k := 1) (v := (.slice A bb c)) hN.b3 rfl, setCell_same (k := 2) (v := (.slice A5 bb c5)) hN.b3 rfl]
                    have HK : Hid (K (Z.put none undef) (((w6.setCell ⟨w.heap.size + 3, 0, none⟩ (.int .i64 x.id)).setCell ⟨w.heap.size + 3, 1, none⟩ (.slice A bb c)).setCell ⟨w.heap.size + 3, 2, none⟩ (.slice A5 bb c5))) := Lib.hid (by rw [hs]; exact hK undef _ (hW.snoc (Below.refl _ _) (fun _ _ _ => trivial) trivial))
                    clear hK hW hni hlim hreq ho ht hs hN
                    rw [if_pos (by simp [Region.wanted])]
                    unfold Oper.wp
                    generalize Z.eval = ρ at *
                    simp only [execOp, eA, e8]
                    go_simp
                    exact HK.out
                  · refine OpH.wr rfl (fun Z us w6 ho ht hni hlim hreq hW K hK => ?_)
                    have eB := (ht 88 (by decide)).trans (show _ = (.agg #[(.slice C0 m0 d0), (.slice C1 m1 d1)] : Value) from rfl)
                    have e9 := (ho 9 rfl).trans (show _ = (.pointer (some ⟨w.heap.size + 4, 0, none⟩) : Value) from rfl)
                    have hN := HN8.out.all hW.1
                    obtain ⟨f0, f1, f2, f3⟩ := hN.c4
                    have hs : (w6.setCell ⟨w.heap.size + 4, 0, none⟩ (.slice C0 m0 d0)).setCell ⟨w.heap.size + 4, 1, none⟩ (.slice C1 m1 d1) = w6 := by
                      rw [setCell_same (k := 0) (v := (.slice C0 m0 d0)) hN.b4 rfl, setCell_same (k := 1) (v := (.slice C1 m1 d1)) hN.b4 rfl]
                    have HK : Hid (K (Z.put none undef) ((w6.setCell ⟨w.heap.size + 4, 0, none⟩ (.slice C0 m0 d0)).setCell ⟨w.heap.size + 4, 1, none⟩ (.slice C1 m1 d1))) := Lib.hid (by rw [hs]; exact hK undef _ (hW.snoc (Below.refl _ _) (fun _ _ _ => trivial) trivial))
                    clear hK hW hni hlim hreq ho ht hs hN
                    rw [if_pos (by simp [Region.wanted])]
                    unfold Oper.wp
                    generalize Z.eval = ρ at *
                    simp only [execOp, eB, e9]
                    go_simp
                    exact HK.out
                  · (refine OpH.rd rfl rfl (fun ρ us w6 ho ht hc hl hsrc hW => ?_); clear ht ho; simp only [execOp]; go_simp; try rfl)
                  · intro us w7 hmem hW
                    have hN := HN8.out.all hW.1
                    have HFIN : Hid (RetNSE w R (.returned (.tuple #[.agg #[.int .i64 x.id, .slice A bb c, .slice A5 bb c5], .agg #[.slice C0 m0 d0, .slice C1 m1 d1], .int .i64 0])) w7) := Lib.hid (by rw [HRX.out]; exact ⟨_, _, _, _, _, _, _, _, _, _, _, _, rfl, (HCB.out.all hW.1).mono (fun b hb _ => by have : _ ≤ b := hb; omega), (HCL.out.all hW.1).mono (fun b hb _ => by have : _ ≤ b := hb; omega), (HC0.out.all hW.1).mono (fun b hb _ => by have : _ ≤ b := hb; omega), (HC1.out.all hW.1).mono (fun b hb _ => by have : _ ≤ b := hb; omega), hN.below⟩)
                    obtain ⟨f0, f1, f2, _⟩ := hN.c3
                    obtain ⟨f3, f4, _⟩ := hN.c4
                    simp only [putAll, List.map_cons, List.map_nil, List.foldl_cons, List.foldl_nil, Act.put, List.setIfInBounds_toArray, List.set_cons_succ, List.set_cons_zero]
                    generalize hsv : slotAt _ _ us = sv
                    have h10 : sv 10 = (.int .i64 0) := by rw [← hsv]; rfl
                    rw [h10]
                    clear hsv h10 hmem hW hN
                    go_wp2
                    refine bodyPost_ret (v := (.tuple #[.agg #[.int .i64 x.id, .slice A bb c, .slice A5 bb c5], .agg #[.slice C0 m0 d0, .slice C1 m1 d1], .int .i64 0])) (by simp [results, Try.results50, go_sem, *]; done) rfl ?_
                    exact HFIN.out
      · have hne : ((ng : Int) != s.K + s.M) = true := by simp [h3]
        have HRR : Hid (R = (noNeed, ⟨[], []⟩, 1)) := Lib.hid (HBAD.out (fun h => h3 h.2.2))
        clear h3
        go_wp2_with fail
        refine region_free (by kernel_rfl) (by kernel_rfl) 89 rfl [34, 35, 10] [2, 3] [] [(34, [], fun _ => .agg #[(.int .i64 0), (.slice none 0 0), (.slice none 0 0)]), (35, [], fun _ => .agg #[(.slice none 0 0), (.slice none 0 0)]), (10, [], fun _ => (.int .i64 1))] [] [] [[], [], [34], [35], []] (WdB w2 (fun _ _ _ => True)) (by kernel_rfl) .init ⟨?_, ?_, ?_, ?_, ?_, trivial⟩ ?_
        · (refine OpH.rd rfl rfl (fun ρ us w6 ho ht hc hl hsrc hW => ?_); have e8 := (ho 8 rfl).trans (show _ = (.pointer (some ⟨w.heap.size + 3, 0, none⟩) : Value) from rfl); obtain ⟨y0, y1, y2, _⟩ := (HN2.out.all hW.1).c3; clear ht ho; simp only [execOp, e8]; go_simp; try rfl)
        · (refine OpH.rd rfl rfl (fun ρ us w6 ho ht hc hl hsrc hW => ?_); have e9 := (ho 9 rfl).trans (show _ = (.pointer (some ⟨w.heap.size + 4, 0, none⟩) : Value) from rfl); obtain ⟨y0, y1, _⟩ := (HN2.out.all hW.1).c4; clear ht ho; simp only [execOp, e9]; go_simp; try rfl)
        · refine OpH.wr rfl (fun Z us w6 ho ht hni hlim hreq hW K hK => ?_)
          have eA := (ht 34 (by decide)).trans (show _ = (.agg #[(.int .i64 0), (.slice none 0 0), (.slice none 0 0)] : Value) from rfl)
          have e8 := (ho 8 rfl).trans (show _ = (.pointer (some ⟨w.heap.size + 3, 0, none⟩) : Value) from rfl)
          have hN := HN2.out.all hW.1
          obtain ⟨f0, f1, f2, f3, f4, f5⟩ := hN.c3
          have hs : ((w6.setCell ⟨w.heap.size + 3, 0, none⟩ (.int .i64 0)).setCell ⟨w.heap.size + 3, 1, none⟩ (.slice none 0 0)).setCell ⟨w.heap.size + 3, 2, none⟩ (.slice none 0 0) = w6 := by
            rw [setCell_same (k := 0) (v := (.int .i64 0)) hN.b3 rfl, setCell_same (k := 1) (v := (.slice none 0 0)) hN.b3 rfl, setCell_same (k := 2) (v := (.slice none 0 0)) hN.b3 rfl]
          have HK : Hid (K (Z.put none undef) (((w6.setCell ⟨w.heap.size + 3, 0, none⟩ (.int .i64 0)).setCell ⟨w.heap.size + 3, 1, none⟩ (.slice none 0 0)).setCell ⟨w.heap.size + 3, 2, none⟩ (.slice none 0 0))) := Lib.hid (by rw [hs]; exact hK undef _ (hW.snoc (Below.refl _ _) (fun _ _ _ => trivial) trivial))
          clear hK hW hni hlim hreq ho ht hs hN
          rw [if_pos (by simp [Region.wanted])]
          unfold Oper.wp
          generalize Z.eval = ρ at *
          simp only [execOp, eA, e8]
          go_simp
          exact HK.out
        · refine OpH.wr rfl (fun Z us w6 ho ht hni hlim hreq hW K hK => ?_)
          have eB := (ht 35 (by decide)).trans (show _ = (.agg #[(.slice none 0 0), (.slice none 0 0)] : Value) from rfl)
          have e9 := (ho 9 rfl).trans (show _ = (.pointer (some ⟨w.heap.size + 4, 0, none⟩) : Value) from rfl)
          have hN := HN2.out.all hW.1
          obtain ⟨f0, f1, f2, f3⟩ := hN.c4
          have hs : (w6.setCell ⟨w.heap.size + 4, 0, none⟩ (.slice none 0 0)).setCell ⟨w.heap.size + 4, 1, none⟩ (.slice none 0 0) = w6 := by
            rw [setCell_same (k := 0) (v := (.slice none 0 0)) hN.b4 rfl, setCell_same (k := 1) (v := (.slice none 0 0)) hN.b4 rfl]
          have HK : Hid (K (Z.put none undef) ((w6.setCell ⟨w.heap.size + 4, 0, none⟩ (.slice none 0 0)).setCell ⟨w.heap.size + 4, 1, none⟩ (.slice none 0 0))) := Lib.hid (by rw [hs]; exact hK undef _ (hW.snoc (Below.refl _ _) (fun _ _ _ => trivial) trivial))
          clear hK hW hni hlim hreq ho ht hs hN
          rw [if_pos (by simp [Region.wanted])]
          unfold Oper.wp
          generalize Z.eval = ρ at *
          simp only [execOp, eB, e9]
          go_simp
          exact HK.out
        · (refine OpH.rd rfl rfl (fun ρ us w6 ho ht hc hl hsrc hW => ?_); clear ht ho; simp only [execOp]; go_simp; try rfl)
        · intro us w7 hmem hW
          have hN := HN2.out.all hW.1
          have HFIN : Hid (RetNSE w R (.returned (.tuple #[.agg #[.int .i64 0, .slice none 0 0, .slice none 0 0], .agg #[.slice none 0 0, .slice none 0 0], .int .i64 1])) w7) := Lib.hid (RetNSE.bad HRR.out hN.below)
          obtain ⟨f0, f1, f2, _⟩ := hN.c3
          obtain ⟨f3, f4, _⟩ := hN.c4
          simp only [putAll, List.map_cons, List.map_nil, List.foldl_cons, List.foldl_nil, Act.put, List.setIfInBounds_toArray, List.set_cons_succ, List.set_cons_zero]
          generalize hsv : slotAt _ _ us = sv
          have h10 : sv 10 = (.int .i64 1) := by rw [← hsv]; rfl
          rw [h10]
          clear hsv h10 hmem hW hN
          go_wp2
          refine bodyPost_ret (v := (.tuple #[.agg #[.int .i64 0, .slice none 0 0, .slice none 0 0], .agg #[.slice none 0 0, .slice none 0 0], .int .i64 1])) (by simp [results, Try.results50, go_sem, *]; done) rfl ?_
          exact HFIN.out
end Go.Proofs.Ytfccghfcilccfaa
