/- slices.Insert at rows of structures of one's own. Printed by gen_y2.py. -/
import Derived.Test.YtipecejghioicaaY1r
import Derived.Test.YtipecejghioicaaZdr
import Derived.Shelf.Spec.SlicesInsert
import Derived.Lib.AppendZerosOnto
namespace Go.Silo
open Go Go.RowKit
/-- Put in at a place. -/
def insL {α : Type} (i : Nat) (x : α) (l : List α) : List α := l.take i ++ ([x] ++ l.drop i)
theorem insL_len {α : Type} {i : Nat} {x : α} {l : List α} (h : i ≤ l.length) : (insL i x l).length = l.length + 1 := by simp [insL]; omega
theorem insL_end {α : Type} {x : α} {l : List α} : insL l.length x l = l ++ [x] := by simp [insL]
/-- What Insert leaves. -/
def InsP {α : Type} (T : TypeId) (E : Enc α) (w : World) (base : Nat) (S : Nat → Prop) (A : Option Addr) (l : List α) (i : Nat) (x : α) (e : Ending) (w' : World) : Prop :=
  ∃ A' c', e = .returned (.slice A' (l.length + 1) c') ∧ Own T E w' base S A' (l.length + 1) c' (insL i x l) ∧ w.grownBy w' (ablk A) ∧ (ablk A' = ablk A ∨ ablk A' = some w.heap.size)
/-- The cells behind both copies of an insertion in place. -/
theorem ins_cells {L vs : List Value} {a z N : Nat} (hv : vs.length = z) (ha : a ≤ N) (hN : N + z ≤ L.length) :
    ((((L.take (a + z) ++ (L.take N).drop a ++ L.drop (a + z + ((L.take N).drop a).length)).take a ++ vs ++ (L.take (a + z) ++ (L.take N).drop a ++ L.drop (a + z + ((L.take N).drop a).length)).drop (a + vs.length))).take (N + z)) = (L.take N).take a ++ (vs ++ (L.take N).drop a) ∧
    ((L.take (a + z) ++ (L.take N).drop a ++ L.drop (a + z + ((L.take N).drop a).length)).take a ++ vs ++ (L.take (a + z) ++ (L.take N).drop a ++ L.drop (a + z + ((L.take N).drop a).length)).drop (a + vs.length)).length = L.length ∧
    (L.take (a + z) ++ (L.take N).drop a ++ L.drop (a + z + ((L.take N).drop a).length)).length = L.length := by
  have h1 : ((L.take N).drop a).length = N - a := by rw [List.length_drop, List.length_take, Nat.min_eq_left (by omega)]
  have h2 : (L.take (a + z)).length = a + z := by rw [List.length_take, Nat.min_eq_left (by omega)]
  have e1 : (L.take (a + z) ++ (L.take N).drop a ++ L.drop (a + z + ((L.take N).drop a).length)).take a = (L.take N).take a := by
    rw [List.append_assoc, List.take_append_of_le_length (by omega), List.take_take, List.take_take, Nat.min_eq_left (by omega), Nat.min_eq_left (by omega)]
  have e2 : (L.take (a + z) ++ (L.take N).drop a ++ L.drop (a + z + ((L.take N).drop a).length)).drop (a + vs.length) = (L.take N).drop a ++ L.drop (a + z + ((L.take N).drop a).length) := by
    rw [hv, List.append_assoc]; exact List.drop_left' h2
  rw [e1, e2]
  have h3 : ((L.take N).take a).length = a := by rw [List.length_take, List.length_take]; omega
  refine ⟨?_, ?_, ?_⟩
  · rw [← List.append_assoc, List.take_append_of_le_length (by simp only [List.length_append, h3, h1, hv]; omega), List.take_of_length_le (by simp only [List.length_append, h3, h1, hv]; omega), List.append_assoc]
  · simp only [List.length_append, h3, h1, hv, List.length_drop]; omega
  · simp only [List.length_append, h2, h1, List.length_drop]; omega
/-- The cells behind both copies of an insertion into a new row. -/
theorem ins_cells_new {L Z vs : List Value} {a z N G : Nat} (hv : vs.length = z) (ha : a ≤ N) (hN : L.length = N) (hZ : Z.length = G - a) (hG : N + z ≤ G) :
    (((L.take a ++ Z).take a ++ vs ++ (L.take a ++ Z).drop (a + vs.length)).take (a + z) ++ L.drop a ++ ((L.take a ++ Z).take a ++ vs ++ (L.take a ++ Z).drop (a + vs.length)).drop (a + z + (L.drop a).length)).take (N + z) = L.take a ++ (vs ++ L.drop a) ∧
    ((L.take a ++ Z).take a ++ vs ++ (L.take a ++ Z).drop (a + vs.length)).length = G ∧
    (((L.take a ++ Z).take a ++ vs ++ (L.take a ++ Z).drop (a + vs.length)).take (a + z) ++ L.drop a ++ ((L.take a ++ Z).take a ++ vs ++ (L.take a ++ Z).drop (a + vs.length)).drop (a + z + (L.drop a).length)).length = G := by
  have h0 : (L.take a).length = a := by rw [List.length_take]; omega
  have e0 : (L.take a ++ Z).take a = L.take a := by rw [List.take_append_of_le_length (by omega), List.take_take, Nat.min_self]
  rw [e0]
  have h1 : (L.take a ++ vs).length = a + z := by rw [List.length_append, h0, hv]
  have e1 : (L.take a ++ vs ++ (L.take a ++ Z).drop (a + vs.length)).take (a + z) = L.take a ++ vs := List.take_left' h1
  rw [e1]
  have h2 : (L.drop a).length = N - a := by rw [List.length_drop, hN]
  have h3 : ((L.take a ++ Z).drop (a + vs.length)).length = G - (a + z) := by rw [List.length_drop, List.length_append, h0, hZ, hv]; omega
  refine ⟨?_, ?_, ?_⟩
  · rw [List.take_append_of_le_length (by simp only [List.length_append, h0, h2, hv]; omega), List.take_of_length_le (by simp only [List.length_append, h0, h2, hv]; omega), List.append_assoc]
  · rw [List.length_append, h1, h3]; omega
  · rw [List.length_append, List.length_append, h1, h2, List.length_drop, List.length_append, h1, h3]; omega
end Go.Silo
namespace Go.Proofs.Ytipecejghioicaa
open Go.RowKit Go.Silo

set_option maxRecDepth 100000 in
set_option maxHeartbeats 4000000 in
theorem Insert_Stripe {tg : Bool} {w : World} {base : Nat} {S : Nat → Prop} {A : Option Addr} {n c i vb : Nat} {l : List Stripe} {x : Stripe} {vs : List Value} (h : Own 69 (stripeE tg) w base S A n c l) (hi : i ≤ n) (hn : n ≤ 1000000) (hbase : base ≤ w.heap.size)
    (hv : w.heap[vb]? = some (.cells vs.toArray 69 (0, 0))) (hx : (stripeE tg).R w (fun b => S b ∧ some b ≠ ablk A) vs x) (hvA : some vb ≠ ablk A) :
    Calls Try.prog 61 #[.slice A n c, .int .i64 (i : Int), .slice (some ⟨vb, 0, none⟩) 1 1] w (InsP 69 (stripeE tg) w base S A l i x) := by
  have hl := h.len
  have hle := h.le
  obtain ⟨i0, hii, hz0, hz1, hz2⟩ := info_parts Try.info_Stripe
  have hvl : vs.length = 4 := (stripeE tg).len hx
  have hvc := (stripeE tg).one hx
  by_cases hend : i = n
  · subst hend
    have hNC := Lib.hid hle
    have HH := Lib.hid h
    clear h hl
    rcases Nat.eq_zero_or_pos i with e | e
    · subst e
      cases A with
      | none =>
        go_enter Try.func61, Try.ntmps61
        go_wp2_with (at_builtin; refine wpList_append1 rfl _ _ 24 rfl i0 (.agg #[.int .i64 0, .int .i64 0, .int .i64 0, .slice none 0 0]) 48 Try.underlying24 hii hz0 hz1 hz2 rfl (show 0 < 4 by decide) rfl HH.out vb 69 1 vs x rfl hv hx (by omega) (by omega) hbase ?_)
        all_goals
          intro A9 c9 w9 hown hg hat
          go_wp2
          go_ret
          exact ⟨A9, c9, by rw [HH.out.len]; rfl, by rw [show insL 0 x l = l ++ [x] by have := insL_end (x := x) (l := l); rwa [HH.out.len] at this, HH.out.len]; exact hown, hg, hat⟩
      | some ad =>
        go_enter Try.func61, Try.ntmps61
        go_wp2_with (at_builtin; refine wpList_append1 rfl _ _ 24 rfl i0 (.agg #[.int .i64 0, .int .i64 0, .int .i64 0, .slice none 0 0]) 48 Try.underlying24 hii hz0 hz1 hz2 rfl (show 0 < 4 by decide) rfl HH.out vb 69 1 vs x rfl hv hx (by omega) (by omega) hbase ?_)
        all_goals
          intro A9 c9 w9 hown hg hat
          go_wp2
          go_ret
          exact ⟨A9, c9, by rw [HH.out.len]; rfl, by rw [show insL 0 x l = l ++ [x] by have := insL_end (x := x) (l := l); rwa [HH.out.len] at this, HH.out.len]; exact hown, hg, hat⟩
    · obtain ⟨g, eA, _, _⟩ := HH.out.form e
      subst eA
      go_enter Try.func61, Try.ntmps61
      go_wp2_with (at_builtin; refine wpList_append1 rfl _ _ 24 rfl i0 (.agg #[.int .i64 0, .int .i64 0, .int .i64 0, .slice none 0 0]) 48 Try.underlying24 hii hz0 hz1 hz2 rfl (show 0 < 4 by decide) rfl HH.out vb 69 1 vs x rfl hv hx (by omega) (by omega) hbase ?_)
      all_goals
        intro A9 c9 w9 hown hg hat
        go_wp2
        go_ret
        exact ⟨A9, c9, by rw [HH.out.len]; rfl, by rw [show insL i x l = l ++ [x] by have := insL_end (x := x) (l := l); rwa [HH.out.len] at this, HH.out.len]; exact hown, hg, hat⟩
  · obtain ⟨g, cur, eA, hgb, hgl, hh, hnc, hcm, hcs, hR, _⟩ := h.row (.inl (by omega))
    subst eA
    have hcs : cur.size = c * 4 := hcs
    have hR : Reads (stripeE tg) w (fun b => S b ∧ some b ≠ some g) (cur.toList.take (n * 4)) l := hR
    have hvg : vb ≠ g := fun e => hvA (by rw [e]; rfl)
    have hc63 : c ≤ 9223372036854775807 := hle.2
    have hN : n * 4 ≤ c * 4 := Nat.mul_le_mul_right _ hnc
    have hsz : (Try.prog.info? 69).map (·.size) = some 4 := by rw [hii]; simp [hz1]
    have hz1' : ¬ ((1 : Int) = 0) := by decide
    have mixed : Try.prog.follows .mixedOrders = true := by kernel_rfl
    have hw1 : IntKind.i64.wrap ((i : Int) + 1) = (i : Int) + 1 := by rw [IntKind.wrap_i64]; omega
    have hb1 : (0 : Int) ≤ (i : Int) + 1 := by omega
    have htn : ((i : Int) + 1).toNat = i + 1 := by omega
    have hb3 : (i : Int) ≤ (n : Int) + 1 := by omega
    have hb3' : (i : Int) ≤ (n : Int) := by omega
    have hine : ¬ ((i : Int) = (n : Int)) := by omega
    have hin : i < n := by omega
    have hvcell : ∀ (W : World), W.heap[vb]? = w.heap[vb]? → ∀ j v, vs[j]? = some v → W.cell? ((⟨vb, 0, none⟩ : Addr).add j) = some v := fun W hW j v hj => by
      rw [Addr.add_lit]
      exact (cell_of_row W vb _ _ _ _ (hW.trans hv)).trans (by simpa using hj)
    have hcells := hR.cells
    have hcl : (cur.toList.take (n * 4)).length = n * 4 := by rw [List.length_take, Array.length_toList]; omega
    have hdl : ((cur.toList.take (n * 4)).drop (i * 4)).length = (n - i) * 4 := by rw [List.length_drop, hcl, Nat.sub_mul]
    have hscell : ∀ (W : World), W.heap[g]? = w.heap[g]? → ∀ j v, ((cur.toList.take (n * 4)).drop (i * 4))[j]? = some v → W.cell? ((⟨g, i * 4, none⟩ : Addr).add j) = some v := fun W hW j v hj => by
      rw [Addr.add_lit]
      have hj2 : j < (n - i) * 4 := by have := (List.getElem?_eq_some_iff.1 hj).1; omega
      rw [List.getElem?_drop, List.getElem?_take_of_lt (by omega)] at hj
      exact (cell_of_row W g _ _ _ _ (hW.trans hh)).trans (by simpa using hj)
    by_cases hroom : n + 1 ≤ c
    · have hov : ∀ lb cb o, (callFunc 82 #[.slice (some ⟨vb, 0, none⟩) 1 1, .slice (some ⟨g, o, none⟩) lb cb]).run Try.prog w = .ok (.value (.bool false)) w := fun lb cb o => by
        rw [run_callFunc_extern Try.func82 (by kernel_rfl) (by kernel_rfl) (by kernel_rfl) (e := Extern.SlicesOverlaps.overlaps #[24, 24] #[4]) (by kernel_rfl),
          Lib.run_overlaps_apart w 24 4 69 Try.underlying24 4 Try.sizeOf69 ⟨vb, 0, none⟩ ⟨g, o, none⟩ 1 1 lb cb hvg 69 69 4 (c * 4) (by rw [shape_of_cells hv]; simp [hvl]) (by rw [shape_of_cells hh, hcs]) (by omega) (frozen_of_row w vb _ _ _ hv) (frozen_of_row w vb _ _ _ hv)]
        rfl
      obtain ⟨cells, hcd⟩ : ∃ cells, cells = (cur.toList.take (n * 4)).drop (i * 4) := ⟨_, rfl⟩
      rw [← hcd] at hdl hscell
      obtain ⟨e1, e2, e3⟩ := ins_cells (L := cur.toList) (vs := vs) (a := i * 4) (z := 4) (N := n * 4) hvl (Nat.mul_le_mul_right _ hi) (by rw [Array.length_toList]; have := Nat.mul_le_mul_right 4 hroom; omega)
      rw [← hcd] at e1 e2 e3
      obtain ⟨c1, hc1⟩ : ∃ c1, c1 = (cur.toList.take (i * 4 + 4) ++ cells ++ cur.toList.drop (i * 4 + 4 + cells.length)) := ⟨_, rfl⟩
      rw [← hc1] at e1 e2 e3
      have hfit : n * 4 + 4 ≤ c * 4 := by have := Nat.mul_le_mul_right 4 hroom; omega
      have hiz : i * 4 + (n - i) * 4 = n * 4 := by rw [← Nat.add_mul]; congr 1; omega
      have hcp1 : ∀ ty dc sc, (Builtin.copy_ #[24, 24] ty #[.slice (some ⟨g, (i + 1) * 4, none⟩) (n - i) dc, .slice (some ⟨g, i * 4, none⟩) (n + 1 - i) sc]).run Try.prog w.drew = .ok (goInt (Nat.min (n + 1 - i) (n - i) : Nat)) (w.drew.setRow g c1.toArray) := fun ty dc sc => by
        rw [show (i + 1) * 4 = i * 4 + 4 by omega, hc1]
        refine run_copy_rowN w.drew 24 24 ty 69 4 g (i * 4 + 4) _ dc ⟨g, i * 4, none⟩ _ sc cur 69 cells Try.underlying24 hsz hh ?_ (hscell w.drew rfl) ?_ (fun v hv => hcells v (List.mem_of_mem_drop (by rw [← hcd]; exact hv)))
        · rw [hdl]; congr 1; simp only [Nat.min_def]; split <;> omega
        · rw [hdl]; omega
      obtain ⟨W1, hW1⟩ : ∃ W1, W1 = w.drew.setRow g c1.toArray := ⟨_, rfl⟩
      rw [← hW1] at hcp1
      have hh1 : W1.heap[g]? = some (.cells c1.toArray 69 (0, 0)) := by rw [hW1]; exact setRow_heap _ g cur _ 69 (0, 0) hh
      have hv1 : W1.heap[vb]? = w.heap[vb]? := by rw [hW1]; exact setRow_other _ g vb _ hvg
      obtain ⟨c2, hc2⟩ : ∃ c2, c2 = (c1.take (i * 4) ++ vs ++ c1.drop (i * 4 + vs.length)) := ⟨_, rfl⟩
      rw [← hc2] at e1 e2
      have hcp2 : ∀ ty dc, (Builtin.copy_ #[24, 24] ty #[.slice (some ⟨g, i * 4, none⟩) (n + 1 - i) dc, .slice (some ⟨vb, 0, none⟩) 1 1]).run Try.prog W1 = .ok (goInt (Nat.min 1 (n + 1 - i) : Nat)) (W1.setRow g c2.toArray) := fun ty dc => by
        have := run_copy_rowN (P := Try.prog) W1 24 24 ty 69 4 g (i * 4) (n + 1 - i) dc ⟨vb, 0, none⟩ 1 1 c1.toArray 69 vs Try.underlying24 hsz hh1 (by rw [hvl]; simp only [Nat.min_def]; split <;> omega) (hvcell W1 hv1) (by rw [hvl, List.size_toArray, e3, Array.length_toList, hcs]; have := Nat.mul_le_mul_right 4 hi; omega) hvc
        rw [hc2]; exact this
      obtain ⟨W2, hW2⟩ : ∃ W2, W2 = W1.setRow g c2.toArray := ⟨_, rfl⟩
      rw [← hW2] at hcp2
      have hh2 : W2.heap[g]? = some (.cells c2.toArray 69 (0, 0)) := by rw [hW2]; exact setRow_heap _ g _ _ 69 (0, 0) hh1
      have hgr : w.grownBy W2 (some g) := by
        rw [hW2, hW1]
        exact ⟨rfl, rfl, rfl, by simp, fun k _ hk => (setRow_other _ g k _ (fun e => hk (by rw [e]))).trans (setRow_other _ g k _ (fun e => hk (by rw [e])))⟩
      have HOWN : Hid (Own 69 (stripeE tg) W2 base S (some ⟨g, 0, none⟩) (n + 1) c (insL i x l)) := Lib.hid (by
        refine Own.of_row hgb hh2 hroom hcm (by rw [List.size_toArray, e2, Array.length_toList]; exact hcs) ?_ (by rw [insL_len (by omega), hl])
        have hA : Agree (fun b => S b ∧ some b ≠ some g) w W2 := Agree.grown hgr (fun b hb => hb.2)
        have h1 := (hR.take (i := i) (by omega)).append ((Reads.one hx).append (hR.drop (i := i)))
        have e4 : c2.toArray.toList.take ((n + 1) * (stripeE tg).sz) = (cur.toList.take (n * 4)).take (i * 4) ++ (vs ++ (cur.toList.take (n * 4)).drop (i * 4)) := by
          rw [show (n + 1) * (stripeE tg).sz = n * 4 + 4 from Nat.succ_mul n 4, ← hcd]; exact e1
        rw [e4]
        exact h1.frame hA hgr.size)
      have HGR := Lib.hid hgr
      have hi1 : ¬ (c = i + 1) := by omega
      have hin1 : i ≤ n + 1 := by omega
      have hi2 : ¬ (c = i) := by omega
      have HLL := Lib.hid hl
      clear hW1 hW2 hgr hh1 hh2 e1 e2 e3 hc1 hc2 hcd hdl hscell hcells hcl hR hcs hh hcm h hv1 hl hx hvl hvc hvcell
      go_enter Try.func61, Try.ntmps61
      go_wp2_with (simp only [hov])
      go_region_law_o (refine step_copy_runI rfl _ _ 24 24 rfl _ _ (by simp [Act.eval, Act.put]) (by simp [Act.eval, Act.put]) (hcp1 _ _ _) ?_)
      go_wp2_with (at_builtin; refine wpList_copy_runI _ rfl _ _ 24 24 rfl _ _ rfl rfl (hcp2 _ _) ?_)
      go_ret
      exact ⟨some ⟨g, 0, none⟩, c, by rw [HLL.out]; rfl, by rw [HLL.out]; exact HOWN.out, HGR.out, .inl rfl⟩
    · obtain ⟨cells, hcd⟩ : ∃ cells, cells = cur.toList.take (n * 4) := ⟨_, rfl⟩
      rw [← hcd] at hdl hscell hcells hcl hR
      have hcz : c < n + 1 := by omega
      have hbig : (n + 1) * 48 ≤ 140737488355328 := by omega
      have hold : (Builtin.firstCells i0.size i (.slice (some ⟨g, 0, none⟩) i c)).run Try.prog w.drew = .ok (cells.take (i * 4)).toArray w.drew := by
        rw [hz1]
        exact run_firstCells_some w.drew 4 i ⟨g, 0, none⟩ i c (cells.take (i * 4)) (by rw [List.length_take, hcl]; have := Nat.mul_le_mul_right 4 hi; omega) (fun j v hj => by
          rw [Addr.add_lit, Nat.zero_add]
          rw [List.getElem?_take] at hj
          split at hj
          · rw [hcd, List.getElem?_take] at hj
            split at hj
            · exact (cell_of_row w.drew g _ _ _ _ hh).trans (by simpa using hj)
            · cases hj
          · cases hj)
      have hkk : (n : Int) + 1 - (i : Int) = ((n + 1 - i : Nat) : Int) := by omega
      have hik : i + (n + 1 - i) = n + 1 := by omega
      obtain ⟨G, hG⟩ : ∃ G, G = grownCap w (n + 1) c 69 := ⟨_, rfl⟩
      have hGn : n + 1 ≤ G := by rw [hG]; exact grownCap_ge w _ _ _
      have hGm : G ≤ maxLen := by rw [hG]; exact grownCap_le_maxLen w (n + 1) c 69 (by unfold maxLen; omega)
      have hG63 : G ≤ 9223372036854775807 := by unfold maxLen at hGm; omega
      obtain ⟨Z, hZ⟩ : ∃ Z, Z = (Builtin.zeroCells (.agg #[.int .i64 0, .int .i64 0, .int .i64 0, .slice none 0 0] : Value).cells (n + 1 - i)).toList ++ (Builtin.zeroCells (.agg #[.int .i64 0, .int .i64 0, .int .i64 0, .slice none 0 0] : Value).cells (G - (n + 1))).toList := ⟨_, rfl⟩
      have hzc : (.agg #[.int .i64 0, .int .i64 0, .int .i64 0, .slice none 0 0] : Value).cells.size = 4 := rfl
      have hZl : Z.length = G * 4 - i * 4 := by
        rw [hZ, List.length_append, Array.length_toList, Array.length_toList, size_zeroCells, size_zeroCells, hzc]
        omega
      have hrz : ∀ ty, (Builtin.append_ #[24, 3] ty #[.slice (some ⟨g, 0, none⟩) i c, .int .i64 ((n : Int) + 1 - (i : Int))]).run Try.prog w =
          .ok (.slice (some ⟨w.heap.size, 0, none⟩) (n + 1) G) (w.drew.alloc (.cells (cells.take (i * 4) ++ Z).toArray 69)) := fun ty => by
        have h := Lib.run_append_grow_zeros w 24 3 ty 69 i0 _ .i64 .i64 Try.underlying24 Try.underlying3 hii hz0 (some ⟨g, 0, none⟩) i c (cells.take (i * 4)) hold (n + 1 - i) (by omega) (by omega) (by omega) (by omega) (by rw [hz2]; omega) (by rw [hz2, hik]; exact growslice_fits hcz hbig)
        rw [hik, ← hG] at h
        rw [hkk, h, hZ]
        congr 3
        simp
      obtain ⟨e1, e2, e3⟩ := ins_cells_new (L := cells) (Z := Z) (vs := vs) (a := i * 4) (z := 4) (N := n * 4) (G := G * 4) hvl (Nat.mul_le_mul_right _ hi) hcl hZl (by have := Nat.mul_le_mul_right 4 hGn; omega)
      obtain ⟨c0, hc0⟩ : ∃ c0, c0 = cells.take (i * 4) ++ Z := ⟨_, rfl⟩
      rw [← hc0] at hrz e1 e2 e3
      have hc0l : c0.length = G * 4 := by rw [hc0, List.length_append, List.length_take, hcl, hZl]; have := Nat.mul_le_mul_right 4 hi; have := Nat.mul_le_mul_right 4 hGn; omega
      obtain ⟨c1, hc1⟩ : ∃ c1, c1 = c0.take (i * 4) ++ vs ++ c0.drop (i * 4 + vs.length) := ⟨_, rfl⟩
      rw [← hc1] at e1 e2 e3
      obtain ⟨c2, hc2⟩ : ∃ c2, c2 = c1.take (i * 4 + 4) ++ cells.drop (i * 4) ++ c1.drop (i * 4 + 4 + (cells.drop (i * 4)).length) := ⟨_, rfl⟩
      rw [← hc2] at e1 e3
      have hgw := hgl
      have hvw : vb < w.heap.size := (Array.getElem?_eq_some_iff.1 hv).1
      obtain ⟨W1, hW1⟩ : ∃ W1, W1 = w.drew.alloc (.cells c0.toArray 69) := ⟨_, rfl⟩
      have hh1 : W1.heap[w.heap.size]? = some (.cells c0.toArray 69 (0, 0)) := by rw [hW1]; exact heap_alloc_new w.drew _
      have hg1 : W1.heap[g]? = w.heap[g]? := by rw [hW1]; exact Below.heap_alloc w.drew _ _ hgl
      have hv1 : W1.heap[vb]? = w.heap[vb]? := by rw [hW1]; exact Below.heap_alloc w.drew _ _ hvw
      have hcpA : ∀ (W : World), W.heap = W1.heap → ∀ ty dc, (Builtin.copy_ #[24, 24] ty #[.slice (some ⟨w.heap.size, i * 4, none⟩) (n + 1 - i) dc, .slice (some ⟨vb, 0, none⟩) 1 1]).run Try.prog W = .ok (goInt (Nat.min 1 (n + 1 - i) : Nat)) (W.setRow w.heap.size c1.toArray) := fun W hW ty dc => by
        have := run_copy_rowN (P := Try.prog) W 24 24 ty 69 4 w.heap.size (i * 4) (n + 1 - i) dc ⟨vb, 0, none⟩ 1 1 c0.toArray 69 vs Try.underlying24 hsz (by rw [hW]; exact hh1) (by rw [hvl]; simp only [Nat.min_def]; split <;> omega) (hvcell W (by rw [hW]; exact hv1)) (by rw [hvl, List.size_toArray, hc0l]; have := Nat.mul_le_mul_right 4 hi; have := Nat.mul_le_mul_right 4 hGn; omega) hvc
        rw [hc1]; exact this
      have hcpB : ∀ (W : World), W.heap = (W1.setRow w.heap.size c1.toArray).heap → ∀ ty dc sc, (Builtin.copy_ #[24, 24] ty #[.slice (some ⟨w.heap.size, (i + 1) * 4, none⟩) (n - i) dc, .slice (some ⟨g, i * 4, none⟩) (n - i) sc]).run Try.prog W = .ok (goInt (Nat.min (n - i) (n - i) : Nat)) (W.setRow w.heap.size c2.toArray) := fun W hW ty dc sc => by
        have hrow : W.heap[w.heap.size]? = some (.cells c1.toArray 69 (0, 0)) := by rw [hW]; exact setRow_heap _ _ _ _ 69 (0, 0) hh1
        have hrg : W.heap[g]? = w.heap[g]? := by rw [hW]; exact (setRow_other _ _ g _ (by omega)).trans hg1
        rw [show (i + 1) * 4 = i * 4 + 4 by omega, hc2]
        refine run_copy_rowN (P := Try.prog) W 24 24 ty 69 4 w.heap.size (i * 4 + 4) _ dc ⟨g, i * 4, none⟩ _ sc c1.toArray 69 (cells.drop (i * 4)) Try.underlying24 hsz hrow ?_ (hscell W hrg) ?_ (fun v hv => hcells v (List.mem_of_mem_drop hv))
        · rw [hdl]; congr 1; simp only [Nat.min_def]; split <;> omega
        · rw [hdl, List.size_toArray, e2]; have := Nat.mul_le_mul_right 4 hGn; rw [Nat.sub_mul]; have := Nat.mul_le_mul_right 4 hi; omega
      have HFIN : Hid (∀ W : World, W.heap = ((W1.setRow w.heap.size c1.toArray).setRow w.heap.size c2.toArray).heap → W.os = w.os → W.tape = w.tape → W.output = w.output → Own 69 (stripeE tg) W base S (some ⟨w.heap.size, 0, none⟩) (n + 1) G (insL i x l) ∧ w.grownBy W (some g)) := Lib.hid (fun W hW ho ht hu => by
        have hgr : w.grownBy W (some g) := ⟨ho, ht, hu, by rw [hW, setRow_size, setRow_size, hW1]; simp, fun k hk _ => by rw [hW, setRow_other _ _ k _ (by omega), setRow_other _ _ k _ (by omega), hW1]; exact Below.heap_alloc w.drew _ _ hk⟩
        refine ⟨?_, hgr⟩
        have hrow : W.heap[w.heap.size]? = some (.cells c2.toArray 69 (0, 0)) := by rw [hW]; exact setRow_heap _ _ _ _ 69 (0, 0) (setRow_heap _ _ _ _ 69 (0, 0) hh1)
        refine Own.of_row hbase hrow hGn hGm (by rw [List.size_toArray]; exact e3) ?_ (by rw [insL_len (by omega), hl])
        have hA : Agree (fun b => S b ∧ some b ≠ some g) w W := Agree.grown hgr (fun b hb => hb.2)
        have h1 := (hR.take (i := i) (by omega)).append ((Reads.one hx).append (hR.drop (i := i)))
        have e4 : c2.toArray.toList.take ((n + 1) * (stripeE tg).sz) = cells.take (i * 4) ++ (vs ++ cells.drop (i * 4)) := by
          rw [show (n + 1) * (stripeE tg).sz = n * 4 + 4 from Nat.succ_mul n 4]; exact e1
        rw [e4]
        exact (h1.mono (S' := fun b => (S b ∧ some b ≠ some g) ∧ some b ≠ some w.heap.size) (fun b hb hlt => ⟨hb, fun e => by injection e with e; omega⟩) |>.frame (hA.mono fun b hb _ => hb.1) hgr.size).mono (fun b hb _ => ⟨hb.1.1, hb.2⟩))
      subst hW1
      have hE : ((w.alloc (.cells c0.toArray 69)).drew).heap = (w.drew.alloc (.cells c0.toArray 69)).heap := rfl
      have hF : (((w.alloc (.cells c0.toArray 69)).drew.setRow w.heap.size c1.toArray).drew).heap = ((w.drew.alloc (.cells c0.toArray 69)).setRow w.heap.size c1.toArray).heap := rfl
      have hi1 : ¬ (G = i + 1) := by omega
      have hin1 : i ≤ n + 1 := by omega
      have hi2 : ¬ (G = i) := by omega
      have hi3 : ¬ (c = i) := by omega
      have hcz2 : (c : Int) < (n : Int) + 1 := by omega
      have HLL := Lib.hid hl
      clear hh1 hg1 hv1 e1 e2 e3 hc0 hc0l hc1 hc2 hcd hZ hZl hG hkk hik hold hdl hscell hcells hcl hR hcs hh hcm h hl hx hvl hvc hvcell hGm
      go_enter Try.func61, Try.ntmps61
      go_wp2_with (first
        | (at_builtin; refine Lib.wpList_append_run _ rfl _ _ _ _ rfl _ _ rfl rfl _ _ (hrz _) ?_)
        | (at_builtin; refine wpList_copy_runI _ rfl _ _ 24 24 rfl _ _ rfl rfl (hcpA _ hE _ _) ?_))
      go_region_law_o (refine step_copy_runI rfl _ _ 24 24 rfl (.slice (some ⟨w.heap.size, (i + 1) * 4, none⟩) (n - i) (G - (i + 1))) (.slice (some ⟨g, i * 4, none⟩) (n - i) (c - i)) (by simp [Act.eval, Act.put]) (by simp [Act.eval, Act.put]) (hcpB _ hF 3 (G - (i + 1)) (c - i)) ?_)
      go_wp2
      go_ret
      obtain ⟨q1, q2⟩ := HFIN.out (((w.alloc (.cells c0.toArray 69)).drew.setRow w.heap.size c1.toArray).drew.setRow w.heap.size c2.toArray) rfl rfl rfl rfl
      exact ⟨some ⟨w.heap.size, 0, none⟩, G, by rw [HLL.out]; rfl, by rw [HLL.out]; exact q1, q2, .inr rfl⟩

set_option maxRecDepth 100000 in
set_option maxHeartbeats 4000000 in
theorem Insert_Entry {tg : Bool} {w : World} {base : Nat} {S : Nat → Prop} {A : Option Addr} {n c i vb : Nat} {l : List Entry} {x : Entry} {vs : List Value} (h : Own 71 (entryE tg) w base S A n c l) (hi : i ≤ n) (hn : n ≤ 1000000) (hbase : base ≤ w.heap.size)
    (hv : w.heap[vb]? = some (.cells vs.toArray 71 (0, 0))) (hx : (entryE tg).R w (fun b => S b ∧ some b ≠ ablk A) vs x) (hvA : some vb ≠ ablk A) :
    Calls Try.prog 65 #[.slice A n c, .int .i64 (i : Int), .slice (some ⟨vb, 0, none⟩) 1 1] w (InsP 71 (entryE tg) w base S A l i x) := by
  have hl := h.len
  have hle := h.le
  obtain ⟨i0, hii, hz0, hz1, hz2⟩ := info_parts Try.info_Entry
  have hvl : vs.length = 4 := (entryE tg).len hx
  have hvc := (entryE tg).one hx
  by_cases hend : i = n
  · subst hend
    have hNC := Lib.hid hle
    have HH := Lib.hid h
    clear h hl
    rcases Nat.eq_zero_or_pos i with e | e
    · subst e
      cases A with
      | none =>
        go_enter Try.func65, Try.ntmps65
        go_wp2_with (at_builtin; refine wpList_append1 rfl _ _ 25 rfl i0 (.agg #[.string ByteArray.empty, .int .i64 0, .bool false, .slice none 0 0]) 56 Try.underlying25 hii hz0 hz1 hz2 rfl (show 0 < 4 by decide) rfl HH.out vb 71 1 vs x rfl hv hx (by omega) (by omega) hbase ?_)
        all_goals
          intro A9 c9 w9 hown hg hat
          go_wp2
          go_ret
          exact ⟨A9, c9, by rw [HH.out.len]; rfl, by rw [show insL 0 x l = l ++ [x] by have := insL_end (x := x) (l := l); rwa [HH.out.len] at this, HH.out.len]; exact hown, hg, hat⟩
      | some ad =>
        go_enter Try.func65, Try.ntmps65
        go_wp2_with (at_builtin; refine wpList_append1 rfl _ _ 25 rfl i0 (.agg #[.string ByteArray.empty, .int .i64 0, .bool false, .slice none 0 0]) 56 Try.underlying25 hii hz0 hz1 hz2 rfl (show 0 < 4 by decide) rfl HH.out vb 71 1 vs x rfl hv hx (by omega) (by omega) hbase ?_)
        all_goals
          intro A9 c9 w9 hown hg hat
          go_wp2
          go_ret
          exact ⟨A9, c9, by rw [HH.out.len]; rfl, by rw [show insL 0 x l = l ++ [x] by have := insL_end (x := x) (l := l); rwa [HH.out.len] at this, HH.out.len]; exact hown, hg, hat⟩
    · obtain ⟨g, eA, _, _⟩ := HH.out.form e
      subst eA
      go_enter Try.func65, Try.ntmps65
      go_wp2_with (at_builtin; refine wpList_append1 rfl _ _ 25 rfl i0 (.agg #[.string ByteArray.empty, .int .i64 0, .bool false, .slice none 0 0]) 56 Try.underlying25 hii hz0 hz1 hz2 rfl (show 0 < 4 by decide) rfl HH.out vb 71 1 vs x rfl hv hx (by omega) (by omega) hbase ?_)
      all_goals
        intro A9 c9 w9 hown hg hat
        go_wp2
        go_ret
        exact ⟨A9, c9, by rw [HH.out.len]; rfl, by rw [show insL i x l = l ++ [x] by have := insL_end (x := x) (l := l); rwa [HH.out.len] at this, HH.out.len]; exact hown, hg, hat⟩
  · obtain ⟨g, cur, eA, hgb, hgl, hh, hnc, hcm, hcs, hR, _⟩ := h.row (.inl (by omega))
    subst eA
    have hcs : cur.size = c * 4 := hcs
    have hR : Reads (entryE tg) w (fun b => S b ∧ some b ≠ some g) (cur.toList.take (n * 4)) l := hR
    have hvg : vb ≠ g := fun e => hvA (by rw [e]; rfl)
    have hc63 : c ≤ 9223372036854775807 := hle.2
    have hN : n * 4 ≤ c * 4 := Nat.mul_le_mul_right _ hnc
    have hsz : (Try.prog.info? 71).map (·.size) = some 4 := by rw [hii]; simp [hz1]
    have hz1' : ¬ ((1 : Int) = 0) := by decide
    have mixed : Try.prog.follows .mixedOrders = true := by kernel_rfl
    have hw1 : IntKind.i64.wrap ((i : Int) + 1) = (i : Int) + 1 := by rw [IntKind.wrap_i64]; omega
    have hb1 : (0 : Int) ≤ (i : Int) + 1 := by omega
    have htn : ((i : Int) + 1).toNat = i + 1 := by omega
    have hb3 : (i : Int) ≤ (n : Int) + 1 := by omega
    have hb3' : (i : Int) ≤ (n : Int) := by omega
    have hine : ¬ ((i : Int) = (n : Int)) := by omega
    have hin : i < n := by omega
    have hvcell : ∀ (W : World), W.heap[vb]? = w.heap[vb]? → ∀ j v, vs[j]? = some v → W.cell? ((⟨vb, 0, none⟩ : Addr).add j) = some v := fun W hW j v hj => by
      rw [Addr.add_lit]
      exact (cell_of_row W vb _ _ _ _ (hW.trans hv)).trans (by simpa using hj)
    have hcells := hR.cells
    have hcl : (cur.toList.take (n * 4)).length = n * 4 := by rw [List.length_take, Array.length_toList]; omega
    have hdl : ((cur.toList.take (n * 4)).drop (i * 4)).length = (n - i) * 4 := by rw [List.length_drop, hcl, Nat.sub_mul]
    have hscell : ∀ (W : World), W.heap[g]? = w.heap[g]? → ∀ j v, ((cur.toList.take (n * 4)).drop (i * 4))[j]? = some v → W.cell? ((⟨g, i * 4, none⟩ : Addr).add j) = some v := fun W hW j v hj => by
      rw [Addr.add_lit]
      have hj2 : j < (n - i) * 4 := by have := (List.getElem?_eq_some_iff.1 hj).1; omega
      rw [List.getElem?_drop, List.getElem?_take_of_lt (by omega)] at hj
      exact (cell_of_row W g _ _ _ _ (hW.trans hh)).trans (by simpa using hj)
    by_cases hroom : n + 1 ≤ c
    · have hov : ∀ lb cb o, (callFunc 84 #[.slice (some ⟨vb, 0, none⟩) 1 1, .slice (some ⟨g, o, none⟩) lb cb]).run Try.prog w = .ok (.value (.bool false)) w := fun lb cb o => by
        rw [run_callFunc_extern Try.func84 (by kernel_rfl) (by kernel_rfl) (by kernel_rfl) (e := Extern.SlicesOverlaps.overlaps #[25, 25] #[4]) (by kernel_rfl),
          Lib.run_overlaps_apart w 25 4 71 Try.underlying25 4 Try.sizeOf71 ⟨vb, 0, none⟩ ⟨g, o, none⟩ 1 1 lb cb hvg 71 71 4 (c * 4) (by rw [shape_of_cells hv]; simp [hvl]) (by rw [shape_of_cells hh, hcs]) (by omega) (frozen_of_row w vb _ _ _ hv) (frozen_of_row w vb _ _ _ hv)]
        rfl
      obtain ⟨cells, hcd⟩ : ∃ cells, cells = (cur.toList.take (n * 4)).drop (i * 4) := ⟨_, rfl⟩
      rw [← hcd] at hdl hscell
      obtain ⟨e1, e2, e3⟩ := ins_cells (L := cur.toList) (vs := vs) (a := i * 4) (z := 4) (N := n * 4) hvl (Nat.mul_le_mul_right _ hi) (by rw [Array.length_toList]; have := Nat.mul_le_mul_right 4 hroom; omega)
      rw [← hcd] at e1 e2 e3
      obtain ⟨c1, hc1⟩ : ∃ c1, c1 = (cur.toList.take (i * 4 + 4) ++ cells ++ cur.toList.drop (i * 4 + 4 + cells.length)) := ⟨_, rfl⟩
      rw [← hc1] at e1 e2 e3
      have hfit : n * 4 + 4 ≤ c * 4 := by have := Nat.mul_le_mul_right 4 hroom; omega
      have hiz : i * 4 + (n - i) * 4 = n * 4 := by rw [← Nat.add_mul]; congr 1; omega
      have hcp1 : ∀ ty dc sc, (Builtin.copy_ #[25, 25] ty #[.slice (some ⟨g, (i + 1) * 4, none⟩) (n - i) dc, .slice (some ⟨g, i * 4, none⟩) (n + 1 - i) sc]).run Try.prog w.drew = .ok (goInt (Nat.min (n + 1 - i) (n - i) : Nat)) (w.drew.setRow g c1.toArray) := fun ty dc sc => by
        rw [show (i + 1) * 4 = i * 4 + 4 by omega, hc1]
        refine run_copy_rowN w.drew 25 25 ty 71 4 g (i * 4 + 4) _ dc ⟨g, i * 4, none⟩ _ sc cur 71 cells Try.underlying25 hsz hh ?_ (hscell w.drew rfl) ?_ (fun v hv => hcells v (List.mem_of_mem_drop (by rw [← hcd]; exact hv)))
        · rw [hdl]; congr 1; simp only [Nat.min_def]; split <;> omega
        · rw [hdl]; omega
      obtain ⟨W1, hW1⟩ : ∃ W1, W1 = w.drew.setRow g c1.toArray := ⟨_, rfl⟩
      rw [← hW1] at hcp1
      have hh1 : W1.heap[g]? = some (.cells c1.toArray 71 (0, 0)) := by rw [hW1]; exact setRow_heap _ g cur _ 71 (0, 0) hh
      have hv1 : W1.heap[vb]? = w.heap[vb]? := by rw [hW1]; exact setRow_other _ g vb _ hvg
      obtain ⟨c2, hc2⟩ : ∃ c2, c2 = (c1.take (i * 4) ++ vs ++ c1.drop (i * 4 + vs.length)) := ⟨_, rfl⟩
      rw [← hc2] at e1 e2
      have hcp2 : ∀ ty dc, (Builtin.copy_ #[25, 25] ty #[.slice (some ⟨g, i * 4, none⟩) (n + 1 - i) dc, .slice (some ⟨vb, 0, none⟩) 1 1]).run Try.prog W1 = .ok (goInt (Nat.min 1 (n + 1 - i) : Nat)) (W1.setRow g c2.toArray) := fun ty dc => by
        have := run_copy_rowN (P := Try.prog) W1 25 25 ty 71 4 g (i * 4) (n + 1 - i) dc ⟨vb, 0, none⟩ 1 1 c1.toArray 71 vs Try.underlying25 hsz hh1 (by rw [hvl]; simp only [Nat.min_def]; split <;> omega) (hvcell W1 hv1) (by rw [hvl, List.size_toArray, e3, Array.length_toList, hcs]; have := Nat.mul_le_mul_right 4 hi; omega) hvc
        rw [hc2]; exact this
      obtain ⟨W2, hW2⟩ : ∃ W2, W2 = W1.setRow g c2.toArray := ⟨_, rfl⟩
      rw [← hW2] at hcp2
      have hh2 : W2.heap[g]? = some (.cells c2.toArray 71 (0, 0)) := by rw [hW2]; exact setRow_heap _ g _ _ 71 (0, 0) hh1
      have hgr : w.grownBy W2 (some g) := by
        rw [hW2, hW1]
        exact ⟨rfl, rfl, rfl, by simp, fun k _ hk => (setRow_other _ g k _ (fun e => hk (by rw [e]))).trans (setRow_other _ g k _ (fun e => hk (by rw [e])))⟩
      have HOWN : Hid (Own 71 (entryE tg) W2 base S (some ⟨g, 0, none⟩) (n + 1) c (insL i x l)) := Lib.hid (by
        refine Own.of_row hgb hh2 hroom hcm (by rw [List.size_toArray, e2, Array.length_toList]; exact hcs) ?_ (by rw [insL_len (by omega), hl])
        have hA : Agree (fun b => S b ∧ some b ≠ some g) w W2 := Agree.grown hgr (fun b hb => hb.2)
        have h1 := (hR.take (i := i) (by omega)).append ((Reads.one hx).append (hR.drop (i := i)))
        have e4 : c2.toArray.toList.take ((n + 1) * (entryE tg).sz) = (cur.toList.take (n * 4)).take (i * 4) ++ (vs ++ (cur.toList.take (n * 4)).drop (i * 4)) := by
          rw [show (n + 1) * (entryE tg).sz = n * 4 + 4 from Nat.succ_mul n 4, ← hcd]; exact e1
        rw [e4]
        exact h1.frame hA hgr.size)
      have HGR := Lib.hid hgr
      have hi1 : ¬ (c = i + 1) := by omega
      have hin1 : i ≤ n + 1 := by omega
      have hi2 : ¬ (c = i) := by omega
      have HLL := Lib.hid hl
      clear hW1 hW2 hgr hh1 hh2 e1 e2 e3 hc1 hc2 hcd hdl hscell hcells hcl hR hcs hh hcm h hv1 hl hx hvl hvc hvcell
      go_enter Try.func65, Try.ntmps65
      go_wp2_with (simp only [hov])
      go_region_law_o (refine step_copy_runI rfl _ _ 25 25 rfl _ _ (by simp [Act.eval, Act.put]) (by simp [Act.eval, Act.put]) (hcp1 _ _ _) ?_)
      go_wp2_with (at_builtin; refine wpList_copy_runI _ rfl _ _ 25 25 rfl _ _ rfl rfl (hcp2 _ _) ?_)
      go_ret
      exact ⟨some ⟨g, 0, none⟩, c, by rw [HLL.out]; rfl, by rw [HLL.out]; exact HOWN.out, HGR.out, .inl rfl⟩
    · obtain ⟨cells, hcd⟩ : ∃ cells, cells = cur.toList.take (n * 4) := ⟨_, rfl⟩
      rw [← hcd] at hdl hscell hcells hcl hR
      have hcz : c < n + 1 := by omega
      have hbig : (n + 1) * 56 ≤ 140737488355328 := by omega
      have hold : (Builtin.firstCells i0.size i (.slice (some ⟨g, 0, none⟩) i c)).run Try.prog w.drew = .ok (cells.take (i * 4)).toArray w.drew := by
        rw [hz1]
        exact run_firstCells_some w.drew 4 i ⟨g, 0, none⟩ i c (cells.take (i * 4)) (by rw [List.length_take, hcl]; have := Nat.mul_le_mul_right 4 hi; omega) (fun j v hj => by
          rw [Addr.add_lit, Nat.zero_add]
          rw [List.getElem?_take] at hj
          split at hj
          · rw [hcd, List.getElem?_take] at hj
            split at hj
            · exact (cell_of_row w.drew g _ _ _ _ hh).trans (by simpa using hj)
            · cases hj
          · cases hj)
      have hkk : (n : Int) + 1 - (i : Int) = ((n + 1 - i : Nat) : Int) := by omega
      have hik : i + (n + 1 - i) = n + 1 := by omega
      obtain ⟨G, hG⟩ : ∃ G, G = grownCap w (n + 1) c 71 := ⟨_, rfl⟩
      have hGn : n + 1 ≤ G := by rw [hG]; exact grownCap_ge w _ _ _
      have hGm : G ≤ maxLen := by rw [hG]; exact grownCap_le_maxLen w (n + 1) c 71 (by unfold maxLen; omega)
      have hG63 : G ≤ 9223372036854775807 := by unfold maxLen at hGm; omega
      obtain ⟨Z, hZ⟩ : ∃ Z, Z = (Builtin.zeroCells (.agg #[.string ByteArray.empty, .int .i64 0, .bool false, .slice none 0 0] : Value).cells (n + 1 - i)).toList ++ (Builtin.zeroCells (.agg #[.string ByteArray.empty, .int .i64 0, .bool false, .slice none 0 0] : Value).cells (G - (n + 1))).toList := ⟨_, rfl⟩
      have hzc : (.agg #[.string ByteArray.empty, .int .i64 0, .bool false, .slice none 0 0] : Value).cells.size = 4 := rfl
      have hZl : Z.length = G * 4 - i * 4 := by
        rw [hZ, List.length_append, Array.length_toList, Array.length_toList, size_zeroCells, size_zeroCells, hzc]
        omega
      have hrz : ∀ ty, (Builtin.append_ #[25, 3] ty #[.slice (some ⟨g, 0, none⟩) i c, .int .i64 ((n : Int) + 1 - (i : Int))]).run Try.prog w =
          .ok (.slice (some ⟨w.heap.size, 0, none⟩) (n + 1) G) (w.drew.alloc (.cells (cells.take (i * 4) ++ Z).toArray 71)) := fun ty => by
        have h := Lib.run_append_grow_zeros w 25 3 ty 71 i0 _ .i64 .i64 Try.underlying25 Try.underlying3 hii hz0 (some ⟨g, 0, none⟩) i c (cells.take (i * 4)) hold (n + 1 - i) (by omega) (by omega) (by omega) (by omega) (by rw [hz2]; omega) (by rw [hz2, hik]; exact growslice_fits hcz hbig)
        rw [hik, ← hG] at h
        rw [hkk, h, hZ]
        congr 3
        simp
      obtain ⟨e1, e2, e3⟩ := ins_cells_new (L := cells) (Z := Z) (vs := vs) (a := i * 4) (z := 4) (N := n * 4) (G := G * 4) hvl (Nat.mul_le_mul_right _ hi) hcl hZl (by have := Nat.mul_le_mul_right 4 hGn; omega)
      obtain ⟨c0, hc0⟩ : ∃ c0, c0 = cells.take (i * 4) ++ Z := ⟨_, rfl⟩
      rw [← hc0] at hrz e1 e2 e3
      have hc0l : c0.length = G * 4 := by rw [hc0, List.length_append, List.length_take, hcl, hZl]; have := Nat.mul_le_mul_right 4 hi; have := Nat.mul_le_mul_right 4 hGn; omega
      obtain ⟨c1, hc1⟩ : ∃ c1, c1 = c0.take (i * 4) ++ vs ++ c0.drop (i * 4 + vs.length) := ⟨_, rfl⟩
      rw [← hc1] at e1 e2 e3
      obtain ⟨c2, hc2⟩ : ∃ c2, c2 = c1.take (i * 4 + 4) ++ cells.drop (i * 4) ++ c1.drop (i * 4 + 4 + (cells.drop (i * 4)).length) := ⟨_, rfl⟩
      rw [← hc2] at e1 e3
      have hgw := hgl
      have hvw : vb < w.heap.size := (Array.getElem?_eq_some_iff.1 hv).1
      obtain ⟨W1, hW1⟩ : ∃ W1, W1 = w.drew.alloc (.cells c0.toArray 71) := ⟨_, rfl⟩
      have hh1 : W1.heap[w.heap.size]? = some (.cells c0.toArray 71 (0, 0)) := by rw [hW1]; exact heap_alloc_new w.drew _
      have hg1 : W1.heap[g]? = w.heap[g]? := by rw [hW1]; exact Below.heap_alloc w.drew _ _ hgl
      have hv1 : W1.heap[vb]? = w.heap[vb]? := by rw [hW1]; exact Below.heap_alloc w.drew _ _ hvw
      have hcpA : ∀ (W : World), W.heap = W1.heap → ∀ ty dc, (Builtin.copy_ #[25, 25] ty #[.slice (some ⟨w.heap.size, i * 4, none⟩) (n + 1 - i) dc, .slice (some ⟨vb, 0, none⟩) 1 1]).run Try.prog W = .ok (goInt (Nat.min 1 (n + 1 - i) : Nat)) (W.setRow w.heap.size c1.toArray) := fun W hW ty dc => by
        have := run_copy_rowN (P := Try.prog) W 25 25 ty 71 4 w.heap.size (i * 4) (n + 1 - i) dc ⟨vb, 0, none⟩ 1 1 c0.toArray 71 vs Try.underlying25 hsz (by rw [hW]; exact hh1) (by rw [hvl]; simp only [Nat.min_def]; split <;> omega) (hvcell W (by rw [hW]; exact hv1)) (by rw [hvl, List.size_toArray, hc0l]; have := Nat.mul_le_mul_right 4 hi; have := Nat.mul_le_mul_right 4 hGn; omega) hvc
        rw [hc1]; exact this
      have hcpB : ∀ (W : World), W.heap = (W1.setRow w.heap.size c1.toArray).heap → ∀ ty dc sc, (Builtin.copy_ #[25, 25] ty #[.slice (some ⟨w.heap.size, (i + 1) * 4, none⟩) (n - i) dc, .slice (some ⟨g, i * 4, none⟩) (n - i) sc]).run Try.prog W = .ok (goInt (Nat.min (n - i) (n - i) : Nat)) (W.setRow w.heap.size c2.toArray) := fun W hW ty dc sc => by
        have hrow : W.heap[w.heap.size]? = some (.cells c1.toArray 71 (0, 0)) := by rw [hW]; exact setRow_heap _ _ _ _ 71 (0, 0) hh1
        have hrg : W.heap[g]? = w.heap[g]? := by rw [hW]; exact (setRow_other _ _ g _ (by omega)).trans hg1
        rw [show (i + 1) * 4 = i * 4 + 4 by omega, hc2]
        refine run_copy_rowN (P := Try.prog) W 25 25 ty 71 4 w.heap.size (i * 4 + 4) _ dc ⟨g, i * 4, none⟩ _ sc c1.toArray 71 (cells.drop (i * 4)) Try.underlying25 hsz hrow ?_ (hscell W hrg) ?_ (fun v hv => hcells v (List.mem_of_mem_drop hv))
        · rw [hdl]; congr 1; simp only [Nat.min_def]; split <;> omega
        · rw [hdl, List.size_toArray, e2]; have := Nat.mul_le_mul_right 4 hGn; rw [Nat.sub_mul]; have := Nat.mul_le_mul_right 4 hi; omega
      have HFIN : Hid (∀ W : World, W.heap = ((W1.setRow w.heap.size c1.toArray).setRow w.heap.size c2.toArray).heap → W.os = w.os → W.tape = w.tape → W.output = w.output → Own 71 (entryE tg) W base S (some ⟨w.heap.size, 0, none⟩) (n + 1) G (insL i x l) ∧ w.grownBy W (some g)) := Lib.hid (fun W hW ho ht hu => by
        have hgr : w.grownBy W (some g) := ⟨ho, ht, hu, by rw [hW, setRow_size, setRow_size, hW1]; simp, fun k hk _ => by rw [hW, setRow_other _ _ k _ (by omega), setRow_other _ _ k _ (by omega), hW1]; exact Below.heap_alloc w.drew _ _ hk⟩
        refine ⟨?_, hgr⟩
        have hrow : W.heap[w.heap.size]? = some (.cells c2.toArray 71 (0, 0)) := by rw [hW]; exact setRow_heap _ _ _ _ 71 (0, 0) (setRow_heap _ _ _ _ 71 (0, 0) hh1)
        refine Own.of_row hbase hrow hGn hGm (by rw [List.size_toArray]; exact e3) ?_ (by rw [insL_len (by omega), hl])
        have hA : Agree (fun b => S b ∧ some b ≠ some g) w W := Agree.grown hgr (fun b hb => hb.2)
        have h1 := (hR.take (i := i) (by omega)).append ((Reads.one hx).append (hR.drop (i := i)))
        have e4 : c2.toArray.toList.take ((n + 1) * (entryE tg).sz) = cells.take (i * 4) ++ (vs ++ cells.drop (i * 4)) := by
          rw [show (n + 1) * (entryE tg).sz = n * 4 + 4 from Nat.succ_mul n 4]; exact e1
        rw [e4]
        exact (h1.mono (S' := fun b => (S b ∧ some b ≠ some g) ∧ some b ≠ some w.heap.size) (fun b hb hlt => ⟨hb, fun e => by injection e with e; omega⟩) |>.frame (hA.mono fun b hb _ => hb.1) hgr.size).mono (fun b hb _ => ⟨hb.1.1, hb.2⟩))
      subst hW1
      have hE : ((w.alloc (.cells c0.toArray 71)).drew).heap = (w.drew.alloc (.cells c0.toArray 71)).heap := rfl
      have hF : (((w.alloc (.cells c0.toArray 71)).drew.setRow w.heap.size c1.toArray).drew).heap = ((w.drew.alloc (.cells c0.toArray 71)).setRow w.heap.size c1.toArray).heap := rfl
      have hi1 : ¬ (G = i + 1) := by omega
      have hin1 : i ≤ n + 1 := by omega
      have hi2 : ¬ (G = i) := by omega
      have hi3 : ¬ (c = i) := by omega
      have hcz2 : (c : Int) < (n : Int) + 1 := by omega
      have HLL := Lib.hid hl
      clear hh1 hg1 hv1 e1 e2 e3 hc0 hc0l hc1 hc2 hcd hZ hZl hG hkk hik hold hdl hscell hcells hcl hR hcs hh hcm h hl hx hvl hvc hvcell hGm
      go_enter Try.func65, Try.ntmps65
      go_wp2_with (first
        | (at_builtin; refine Lib.wpList_append_run _ rfl _ _ _ _ rfl _ _ rfl rfl _ _ (hrz _) ?_)
        | (at_builtin; refine wpList_copy_runI _ rfl _ _ 25 25 rfl _ _ rfl rfl (hcpA _ hE _ _) ?_))
      go_region_law_o (refine step_copy_runI rfl _ _ 25 25 rfl (.slice (some ⟨w.heap.size, (i + 1) * 4, none⟩) (n - i) (G - (i + 1))) (.slice (some ⟨g, i * 4, none⟩) (n - i) (c - i)) (by simp [Act.eval, Act.put]) (by simp [Act.eval, Act.put]) (hcpB _ hF 3 (G - (i + 1)) (c - i)) ?_)
      go_wp2
      go_ret
      obtain ⟨q1, q2⟩ := HFIN.out (((w.alloc (.cells c0.toArray 71)).drew.setRow w.heap.size c1.toArray).drew.setRow w.heap.size c2.toArray) rfl rfl rfl rfl
      exact ⟨some ⟨w.heap.size, 0, none⟩, G, by rw [HLL.out]; rfl, by rw [HLL.out]; exact q1, q2, .inr rfl⟩

set_option maxRecDepth 100000 in
set_option maxHeartbeats 4000000 in
theorem Insert_Tag {w : World} {base : Nat} {S : Nat → Prop} {A : Option Addr} {n c i vb : Nat} {l : List Tag} {x : Tag} {vs : List Value} (h : Own 73 tagE w base S A n c l) (hi : i ≤ n) (hn : n ≤ 1000000) (hbase : base ≤ w.heap.size)
    (hv : w.heap[vb]? = some (.cells vs.toArray 73 (0, 0))) (hx : tagE.R w (fun b => S b ∧ some b ≠ ablk A) vs x) (hvA : some vb ≠ ablk A) :
    Calls Try.prog 68 #[.slice A n c, .int .i64 (i : Int), .slice (some ⟨vb, 0, none⟩) 1 1] w (InsP 73 tagE w base S A l i x) := by
  have hl := h.len
  have hle := h.le
  obtain ⟨i0, hii, hz0, hz1, hz2⟩ := info_parts Try.info_Tag
  have hvl : vs.length = 2 := tagE.len hx
  have hvc := tagE.one hx
  by_cases hend : i = n
  · subst hend
    have hNC := Lib.hid hle
    have HH := Lib.hid h
    clear h hl
    rcases Nat.eq_zero_or_pos i with e | e
    · subst e
      cases A with
      | none =>
        go_enter Try.func68, Try.ntmps68
        go_wp2_with (at_builtin; refine wpList_append1 rfl _ _ 26 rfl i0 (.agg #[.string ByteArray.empty, .string ByteArray.empty]) 32 Try.underlying26 hii hz0 hz1 hz2 rfl (show 0 < 2 by decide) rfl HH.out vb 73 1 vs x rfl hv hx (by omega) (by omega) hbase ?_)
        all_goals
          intro A9 c9 w9 hown hg hat
          go_wp2
          go_ret
          exact ⟨A9, c9, by rw [HH.out.len]; rfl, by rw [show insL 0 x l = l ++ [x] by have := insL_end (x := x) (l := l); rwa [HH.out.len] at this, HH.out.len]; exact hown, hg, hat⟩
      | some ad =>
        go_enter Try.func68, Try.ntmps68
        go_wp2_with (at_builtin; refine wpList_append1 rfl _ _ 26 rfl i0 (.agg #[.string ByteArray.empty, .string ByteArray.empty]) 32 Try.underlying26 hii hz0 hz1 hz2 rfl (show 0 < 2 by decide) rfl HH.out vb 73 1 vs x rfl hv hx (by omega) (by omega) hbase ?_)
        all_goals
          intro A9 c9 w9 hown hg hat
          go_wp2
          go_ret
          exact ⟨A9, c9, by rw [HH.out.len]; rfl, by rw [show insL 0 x l = l ++ [x] by have := insL_end (x := x) (l := l); rwa [HH.out.len] at this, HH.out.len]; exact hown, hg, hat⟩
    · obtain ⟨g, eA, _, _⟩ := HH.out.form e
      subst eA
      go_enter Try.func68, Try.ntmps68
      go_wp2_with (at_builtin; refine wpList_append1 rfl _ _ 26 rfl i0 (.agg #[.string ByteArray.empty, .string ByteArray.empty]) 32 Try.underlying26 hii hz0 hz1 hz2 rfl (show 0 < 2 by decide) rfl HH.out vb 73 1 vs x rfl hv hx (by omega) (by omega) hbase ?_)
      all_goals
        intro A9 c9 w9 hown hg hat
        go_wp2
        go_ret
        exact ⟨A9, c9, by rw [HH.out.len]; rfl, by rw [show insL i x l = l ++ [x] by have := insL_end (x := x) (l := l); rwa [HH.out.len] at this, HH.out.len]; exact hown, hg, hat⟩
  · obtain ⟨g, cur, eA, hgb, hgl, hh, hnc, hcm, hcs, hR, _⟩ := h.row (.inl (by omega))
    subst eA
    have hcs : cur.size = c * 2 := hcs
    have hR : Reads tagE w (fun b => S b ∧ some b ≠ some g) (cur.toList.take (n * 2)) l := hR
    have hvg : vb ≠ g := fun e => hvA (by rw [e]; rfl)
    have hc63 : c ≤ 9223372036854775807 := hle.2
    have hN : n * 2 ≤ c * 2 := Nat.mul_le_mul_right _ hnc
    have hsz : (Try.prog.info? 73).map (·.size) = some 2 := by rw [hii]; simp [hz1]
    have hz1' : ¬ ((1 : Int) = 0) := by decide
    have mixed : Try.prog.follows .mixedOrders = true := by kernel_rfl
    have hw1 : IntKind.i64.wrap ((i : Int) + 1) = (i : Int) + 1 := by rw [IntKind.wrap_i64]; omega
    have hb1 : (0 : Int) ≤ (i : Int) + 1 := by omega
    have htn : ((i : Int) + 1).toNat = i + 1 := by omega
    have hb3 : (i : Int) ≤ (n : Int) + 1 := by omega
    have hb3' : (i : Int) ≤ (n : Int) := by omega
    have hine : ¬ ((i : Int) = (n : Int)) := by omega
    have hin : i < n := by omega
    have hvcell : ∀ (W : World), W.heap[vb]? = w.heap[vb]? → ∀ j v, vs[j]? = some v → W.cell? ((⟨vb, 0, none⟩ : Addr).add j) = some v := fun W hW j v hj => by
      rw [Addr.add_lit]
      exact (cell_of_row W vb _ _ _ _ (hW.trans hv)).trans (by simpa using hj)
    have hcells := hR.cells
    have hcl : (cur.toList.take (n * 2)).length = n * 2 := by rw [List.length_take, Array.length_toList]; omega
    have hdl : ((cur.toList.take (n * 2)).drop (i * 2)).length = (n - i) * 2 := by rw [List.length_drop, hcl, Nat.sub_mul]
    have hscell : ∀ (W : World), W.heap[g]? = w.heap[g]? → ∀ j v, ((cur.toList.take (n * 2)).drop (i * 2))[j]? = some v → W.cell? ((⟨g, i * 2, none⟩ : Addr).add j) = some v := fun W hW j v hj => by
      rw [Addr.add_lit]
      have hj2 : j < (n - i) * 2 := by have := (List.getElem?_eq_some_iff.1 hj).1; omega
      rw [List.getElem?_drop, List.getElem?_take_of_lt (by omega)] at hj
      exact (cell_of_row W g _ _ _ _ (hW.trans hh)).trans (by simpa using hj)
    by_cases hroom : n + 1 ≤ c
    · have hov : ∀ lb cb o, (callFunc 87 #[.slice (some ⟨vb, 0, none⟩) 1 1, .slice (some ⟨g, o, none⟩) lb cb]).run Try.prog w = .ok (.value (.bool false)) w := fun lb cb o => by
        rw [run_callFunc_extern Try.func87 (by kernel_rfl) (by kernel_rfl) (by kernel_rfl) (e := Extern.SlicesOverlaps.overlaps #[26, 26] #[4]) (by kernel_rfl),
          Lib.run_overlaps_apart w 26 4 73 Try.underlying26 2 Try.sizeOf73 ⟨vb, 0, none⟩ ⟨g, o, none⟩ 1 1 lb cb hvg 73 73 2 (c * 2) (by rw [shape_of_cells hv]; simp [hvl]) (by rw [shape_of_cells hh, hcs]) (by omega) (frozen_of_row w vb _ _ _ hv) (frozen_of_row w vb _ _ _ hv)]
        rfl
      obtain ⟨cells, hcd⟩ : ∃ cells, cells = (cur.toList.take (n * 2)).drop (i * 2) := ⟨_, rfl⟩
      rw [← hcd] at hdl hscell
      obtain ⟨e1, e2, e3⟩ := ins_cells (L := cur.toList) (vs := vs) (a := i * 2) (z := 2) (N := n * 2) hvl (Nat.mul_le_mul_right _ hi) (by rw [Array.length_toList]; have := Nat.mul_le_mul_right 2 hroom; omega)
      rw [← hcd] at e1 e2 e3
      obtain ⟨c1, hc1⟩ : ∃ c1, c1 = (cur.toList.take (i * 2 + 2) ++ cells ++ cur.toList.drop (i * 2 + 2 + cells.length)) := ⟨_, rfl⟩
      rw [← hc1] at e1 e2 e3
      have hfit : n * 2 + 2 ≤ c * 2 := by have := Nat.mul_le_mul_right 2 hroom; omega
      have hiz : i * 2 + (n - i) * 2 = n * 2 := by rw [← Nat.add_mul]; congr 1; omega
      have hcp1 : ∀ ty dc sc, (Builtin.copy_ #[26, 26] ty #[.slice (some ⟨g, (i + 1) * 2, none⟩) (n - i) dc, .slice (some ⟨g, i * 2, none⟩) (n + 1 - i) sc]).run Try.prog w.drew = .ok (goInt (Nat.min (n + 1 - i) (n - i) : Nat)) (w.drew.setRow g c1.toArray) := fun ty dc sc => by
        rw [show (i + 1) * 2 = i * 2 + 2 by omega, hc1]
        refine run_copy_rowN w.drew 26 26 ty 73 2 g (i * 2 + 2) _ dc ⟨g, i * 2, none⟩ _ sc cur 73 cells Try.underlying26 hsz hh ?_ (hscell w.drew rfl) ?_ (fun v hv => hcells v (List.mem_of_mem_drop (by rw [← hcd]; exact hv)))
        · rw [hdl]; congr 1; simp only [Nat.min_def]; split <;> omega
        · rw [hdl]; omega
      obtain ⟨W1, hW1⟩ : ∃ W1, W1 = w.drew.setRow g c1.toArray := ⟨_, rfl⟩
      rw [← hW1] at hcp1
      have hh1 : W1.heap[g]? = some (.cells c1.toArray 73 (0, 0)) := by rw [hW1]; exact setRow_heap _ g cur _ 73 (0, 0) hh
      have hv1 : W1.heap[vb]? = w.heap[vb]? := by rw [hW1]; exact setRow_other _ g vb _ hvg
      obtain ⟨c2, hc2⟩ : ∃ c2, c2 = (c1.take (i * 2) ++ vs ++ c1.drop (i * 2 + vs.length)) := ⟨_, rfl⟩
      rw [← hc2] at e1 e2
      have hcp2 : ∀ ty dc, (Builtin.copy_ #[26, 26] ty #[.slice (some ⟨g, i * 2, none⟩) (n + 1 - i) dc, .slice (some ⟨vb, 0, none⟩) 1 1]).run Try.prog W1 = .ok (goInt (Nat.min 1 (n + 1 - i) : Nat)) (W1.setRow g c2.toArray) := fun ty dc => by
        have := run_copy_rowN (P := Try.prog) W1 26 26 ty 73 2 g (i * 2) (n + 1 - i) dc ⟨vb, 0, none⟩ 1 1 c1.toArray 73 vs Try.underlying26 hsz hh1 (by rw [hvl]; simp only [Nat.min_def]; split <;> omega) (hvcell W1 hv1) (by rw [hvl, List.size_toArray, e3, Array.length_toList, hcs]; have := Nat.mul_le_mul_right 2 hi; omega) hvc
        rw [hc2]; exact this
      obtain ⟨W2, hW2⟩ : ∃ W2, W2 = W1.setRow g c2.toArray := ⟨_, rfl⟩
      rw [← hW2] at hcp2
      have hh2 : W2.heap[g]? = some (.cells c2.toArray 73 (0, 0)) := by rw [hW2]; exact setRow_heap _ g _ _ 73 (0, 0) hh1
      have hgr : w.grownBy W2 (some g) := by
        rw [hW2, hW1]
        exact ⟨rfl, rfl, rfl, by simp, fun k _ hk => (setRow_other _ g k _ (fun e => hk (by rw [e]))).trans (setRow_other _ g k _ (fun e => hk (by rw [e])))⟩
      have HOWN : Hid (Own 73 tagE W2 base S (some ⟨g, 0, none⟩) (n + 1) c (insL i x l)) := Lib.hid (by
        refine Own.of_row hgb hh2 hroom hcm (by rw [List.size_toArray, e2, Array.length_toList]; exact hcs) ?_ (by rw [insL_len (by omega), hl])
        have hA : Agree (fun b => S b ∧ some b ≠ some g) w W2 := Agree.grown hgr (fun b hb => hb.2)
        have h1 := (hR.take (i := i) (by omega)).append ((Reads.one hx).append (hR.drop (i := i)))
        have e4 : c2.toArray.toList.take ((n + 1) * tagE.sz) = (cur.toList.take (n * 2)).take (i * 2) ++ (vs ++ (cur.toList.take (n * 2)).drop (i * 2)) := by
          rw [show (n + 1) * tagE.sz = n * 2 + 2 from Nat.succ_mul n 2, ← hcd]; exact e1
        rw [e4]
        exact h1.frame hA hgr.size)
      have HGR := Lib.hid hgr
      have hi1 : ¬ (c = i + 1) := by omega
      have hin1 : i ≤ n + 1 := by omega
      have hi2 : ¬ (c = i) := by omega
      have HLL := Lib.hid hl
      clear hW1 hW2 hgr hh1 hh2 e1 e2 e3 hc1 hc2 hcd hdl hscell hcells hcl hR hcs hh hcm h hv1 hl hx hvl hvc hvcell
      go_enter Try.func68, Try.ntmps68
      go_wp2_with (simp only [hov])
      go_region_law_o (refine step_copy_runI rfl _ _ 26 26 rfl _ _ (by simp [Act.eval, Act.put]) (by simp [Act.eval, Act.put]) (hcp1 _ _ _) ?_)
      go_wp2_with (at_builtin; refine wpList_copy_runI _ rfl _ _ 26 26 rfl _ _ rfl rfl (hcp2 _ _) ?_)
      go_ret
      exact ⟨some ⟨g, 0, none⟩, c, by rw [HLL.out]; rfl, by rw [HLL.out]; exact HOWN.out, HGR.out, .inl rfl⟩
    · obtain ⟨cells, hcd⟩ : ∃ cells, cells = cur.toList.take (n * 2) := ⟨_, rfl⟩
      rw [← hcd] at hdl hscell hcells hcl hR
      have hcz : c < n + 1 := by omega
      have hbig : (n + 1) * 32 ≤ 140737488355328 := by omega
      have hold : (Builtin.firstCells i0.size i (.slice (some ⟨g, 0, none⟩) i c)).run Try.prog w.drew = .ok (cells.take (i * 2)).toArray w.drew := by
        rw [hz1]
        exact run_firstCells_some w.drew 2 i ⟨g, 0, none⟩ i c (cells.take (i * 2)) (by rw [List.length_take, hcl]; have := Nat.mul_le_mul_right 2 hi; omega) (fun j v hj => by
          rw [Addr.add_lit, Nat.zero_add]
          rw [List.getElem?_take] at hj
          split at hj
          · rw [hcd, List.getElem?_take] at hj
            split at hj
            · exact (cell_of_row w.drew g _ _ _ _ hh).trans (by simpa using hj)
            · cases hj
          · cases hj)
      have hkk : (n : Int) + 1 - (i : Int) = ((n + 1 - i : Nat) : Int) := by omega
      have hik : i + (n + 1 - i) = n + 1 := by omega
      obtain ⟨G, hG⟩ : ∃ G, G = grownCap w (n + 1) c 73 := ⟨_, rfl⟩
      have hGn : n + 1 ≤ G := by rw [hG]; exact grownCap_ge w _ _ _
      have hGm : G ≤ maxLen := by rw [hG]; exact grownCap_le_maxLen w (n + 1) c 73 (by unfold maxLen; omega)
      have hG63 : G ≤ 9223372036854775807 := by unfold maxLen at hGm; omega
      obtain ⟨Z, hZ⟩ : ∃ Z, Z = (Builtin.zeroCells (.agg #[.string ByteArray.empty, .string ByteArray.empty] : Value).cells (n + 1 - i)).toList ++ (Builtin.zeroCells (.agg #[.string ByteArray.empty, .string ByteArray.empty] : Value).cells (G - (n + 1))).toList := ⟨_, rfl⟩
      have hzc : (.agg #[.string ByteArray.empty, .string ByteArray.empty] : Value).cells.size = 2 := rfl
      have hZl : Z.length = G * 2 - i * 2 := by
        rw [hZ, List.length_append, Array.length_toList, Array.length_toList, size_zeroCells, size_zeroCells, hzc]
        omega
      have hrz : ∀ ty, (Builtin.append_ #[26, 3] ty #[.slice (some ⟨g, 0, none⟩) i c, .int .i64 ((n : Int) + 1 - (i : Int))]).run Try.prog w =
          .ok (.slice (some ⟨w.heap.size, 0, none⟩) (n + 1) G) (w.drew.alloc (.cells (cells.take (i * 2) ++ Z).toArray 73)) := fun ty => by
        have h := Lib.run_append_grow_zeros w 26 3 ty 73 i0 _ .i64 .i64 Try.underlying26 Try.underlying3 hii hz0 (some ⟨g, 0, none⟩) i c (cells.take (i * 2)) hold (n + 1 - i) (by omega) (by omega) (by omega) (by omega) (by rw [hz2]; omega) (by rw [hz2, hik]; exact growslice_fits hcz hbig)
        rw [hik, ← hG] at h
        rw [hkk, h, hZ]
        congr 3
        simp
      obtain ⟨e1, e2, e3⟩ := ins_cells_new (L := cells) (Z := Z) (vs := vs) (a := i * 2) (z := 2) (N := n * 2) (G := G * 2) hvl (Nat.mul_le_mul_right _ hi) hcl hZl (by have := Nat.mul_le_mul_right 2 hGn; omega)
      obtain ⟨c0, hc0⟩ : ∃ c0, c0 = cells.take (i * 2) ++ Z := ⟨_, rfl⟩
      rw [← hc0] at hrz e1 e2 e3
      have hc0l : c0.length = G * 2 := by rw [hc0, List.length_append, List.length_take, hcl, hZl]; have := Nat.mul_le_mul_right 2 hi; have := Nat.mul_le_mul_right 2 hGn; omega
      obtain ⟨c1, hc1⟩ : ∃ c1, c1 = c0.take (i * 2) ++ vs ++ c0.drop (i * 2 + vs.length) := ⟨_, rfl⟩
      rw [← hc1] at e1 e2 e3
      obtain ⟨c2, hc2⟩ : ∃ c2, c2 = c1.take (i * 2 + 2) ++ cells.drop (i * 2) ++ c1.drop (i * 2 + 2 + (cells.drop (i * 2)).length) := ⟨_, rfl⟩
      rw [← hc2] at e1 e3
      have hgw := hgl
      have hvw : vb < w.heap.size := (Array.getElem?_eq_some_iff.1 hv).1
      obtain ⟨W1, hW1⟩ : ∃ W1, W1 = w.drew.alloc (.cells c0.toArray 73) := ⟨_, rfl⟩
      have hh1 : W1.heap[w.heap.size]? = some (.cells c0.toArray 73 (0, 0)) := by rw [hW1]; exact heap_alloc_new w.drew _
      have hg1 : W1.heap[g]? = w.heap[g]? := by rw [hW1]; exact Below.heap_alloc w.drew _ _ hgl
      have hv1 : W1.heap[vb]? = w.heap[vb]? := by rw [hW1]; exact Below.heap_alloc w.drew _ _ hvw
      have hcpA : ∀ (W : World), W.heap = W1.heap → ∀ ty dc, (Builtin.copy_ #[26, 26] ty #[.slice (some ⟨w.heap.size, i * 2, none⟩) (n + 1 - i) dc, .slice (some ⟨vb, 0, none⟩) 1 1]).run Try.prog W = .ok (goInt (Nat.min 1 (n + 1 - i) : Nat)) (W.setRow w.heap.size c1.toArray) := fun W hW ty dc => by
        have := run_copy_rowN (P := Try.prog) W 26 26 ty 73 2 w.heap.size (i * 2) (n + 1 - i) dc ⟨vb, 0, none⟩ 1 1 c0.toArray 73 vs Try.underlying26 hsz (by rw [hW]; exact hh1) (by rw [hvl]; simp only [Nat.min_def]; split <;> omega) (hvcell W (by rw [hW]; exact hv1)) (by rw [hvl, List.size_toArray, hc0l]; have := Nat.mul_le_mul_right 2 hi; have := Nat.mul_le_mul_right 2 hGn; omega) hvc
        rw [hc1]; exact this
      have hcpB : ∀ (W : World), W.heap = (W1.setRow w.heap.size c1.toArray).heap → ∀ ty dc sc, (Builtin.copy_ #[26, 26] ty #[.slice (some ⟨w.heap.size, (i + 1) * 2, none⟩) (n - i) dc, .slice (some ⟨g, i * 2, none⟩) (n - i) sc]).run Try.prog W = .ok (goInt (Nat.min (n - i) (n - i) : Nat)) (W.setRow w.heap.size c2.toArray) := fun W hW ty dc sc => by
        have hrow : W.heap[w.heap.size]? = some (.cells c1.toArray 73 (0, 0)) := by rw [hW]; exact setRow_heap _ _ _ _ 73 (0, 0) hh1
        have hrg : W.heap[g]? = w.heap[g]? := by rw [hW]; exact (setRow_other _ _ g _ (by omega)).trans hg1
        rw [show (i + 1) * 2 = i * 2 + 2 by omega, hc2]
        refine run_copy_rowN (P := Try.prog) W 26 26 ty 73 2 w.heap.size (i * 2 + 2) _ dc ⟨g, i * 2, none⟩ _ sc c1.toArray 73 (cells.drop (i * 2)) Try.underlying26 hsz hrow ?_ (hscell W hrg) ?_ (fun v hv => hcells v (List.mem_of_mem_drop hv))
        · rw [hdl]; congr 1; simp only [Nat.min_def]; split <;> omega
        · rw [hdl, List.size_toArray, e2]; have := Nat.mul_le_mul_right 2 hGn; rw [Nat.sub_mul]; have := Nat.mul_le_mul_right 2 hi; omega
      have HFIN : Hid (∀ W : World, W.heap = ((W1.setRow w.heap.size c1.toArray).setRow w.heap.size c2.toArray).heap → W.os = w.os → W.tape = w.tape → W.output = w.output → Own 73 tagE W base S (some ⟨w.heap.size, 0, none⟩) (n + 1) G (insL i x l) ∧ w.grownBy W (some g)) := Lib.hid (fun W hW ho ht hu => by
        have hgr : w.grownBy W (some g) := ⟨ho, ht, hu, by rw [hW, setRow_size, setRow_size, hW1]; simp, fun k hk _ => by rw [hW, setRow_other _ _ k _ (by omega), setRow_other _ _ k _ (by omega), hW1]; exact Below.heap_alloc w.drew _ _ hk⟩
        refine ⟨?_, hgr⟩
        have hrow : W.heap[w.heap.size]? = some (.cells c2.toArray 73 (0, 0)) := by rw [hW]; exact setRow_heap _ _ _ _ 73 (0, 0) (setRow_heap _ _ _ _ 73 (0, 0) hh1)
        refine Own.of_row hbase hrow hGn hGm (by rw [List.size_toArray]; exact e3) ?_ (by rw [insL_len (by omega), hl])
        have hA : Agree (fun b => S b ∧ some b ≠ some g) w W := Agree.grown hgr (fun b hb => hb.2)
        have h1 := (hR.take (i := i) (by omega)).append ((Reads.one hx).append (hR.drop (i := i)))
        have e4 : c2.toArray.toList.take ((n + 1) * tagE.sz) = cells.take (i * 2) ++ (vs ++ cells.drop (i * 2)) := by
          rw [show (n + 1) * tagE.sz = n * 2 + 2 from Nat.succ_mul n 2]; exact e1
        rw [e4]
        exact (h1.mono (S' := fun b => (S b ∧ some b ≠ some g) ∧ some b ≠ some w.heap.size) (fun b hb hlt => ⟨hb, fun e => by injection e with e; omega⟩) |>.frame (hA.mono fun b hb _ => hb.1) hgr.size).mono (fun b hb _ => ⟨hb.1.1, hb.2⟩))
      subst hW1
      have hE : ((w.alloc (.cells c0.toArray 73)).drew).heap = (w.drew.alloc (.cells c0.toArray 73)).heap := rfl
      have hF : (((w.alloc (.cells c0.toArray 73)).drew.setRow w.heap.size c1.toArray).drew).heap = ((w.drew.alloc (.cells c0.toArray 73)).setRow w.heap.size c1.toArray).heap := rfl
      have hi1 : ¬ (G = i + 1) := by omega
      have hin1 : i ≤ n + 1 := by omega
      have hi2 : ¬ (G = i) := by omega
      have hi3 : ¬ (c = i) := by omega
      have hcz2 : (c : Int) < (n : Int) + 1 := by omega
      have HLL := Lib.hid hl
      clear hh1 hg1 hv1 e1 e2 e3 hc0 hc0l hc1 hc2 hcd hZ hZl hG hkk hik hold hdl hscell hcells hcl hR hcs hh hcm h hl hx hvl hvc hvcell hGm
      go_enter Try.func68, Try.ntmps68
      go_wp2_with (first
        | (at_builtin; refine Lib.wpList_append_run _ rfl _ _ _ _ rfl _ _ rfl rfl _ _ (hrz _) ?_)
        | (at_builtin; refine wpList_copy_runI _ rfl _ _ 26 26 rfl _ _ rfl rfl (hcpA _ hE _ _) ?_))
      go_region_law_o (refine step_copy_runI rfl _ _ 26 26 rfl (.slice (some ⟨w.heap.size, (i + 1) * 2, none⟩) (n - i) (G - (i + 1))) (.slice (some ⟨g, i * 2, none⟩) (n - i) (c - i)) (by simp [Act.eval, Act.put]) (by simp [Act.eval, Act.put]) (hcpB _ hF 3 (G - (i + 1)) (c - i)) ?_)
      go_wp2
      go_ret
      obtain ⟨q1, q2⟩ := HFIN.out (((w.alloc (.cells c0.toArray 73)).drew.setRow w.heap.size c1.toArray).drew.setRow w.heap.size c2.toArray) rfl rfl rfl rfl
      exact ⟨some ⟨w.heap.size, 0, none⟩, G, by rw [HLL.out]; rfl, by rw [HLL.out]; exact q1, q2, .inr rfl⟩
end Go.Proofs.Ytipecejghioicaa
