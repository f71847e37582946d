/- rota.Next: the next piece behind a cursor. Printed by gen_n6.py. -/
import Derived.Test.YtjeecdoffoahkaaN5r
namespace Go.Silo
open Go Go.RowKit

/-- What an iterator does between its rounds: new memory, and a box of its own written over. -/
def StR (T : TypeId) (β : Nat) (rb : World → Option Nat) (A B : World) : Prop :=
  Below A.heap.size A B ∨ ∃ g, β ≤ g ∧ rb A ≠ some g ∧ (∃ u v, A.heap[g]? = some (.cells #[u, v] T (0, 0))) ∧ (∀ b, b ≠ g → B.heap[b]? = A.heap[b]?) ∧ B.heap.size = A.heap.size ∧ Below g A B
theorem StR.keeps {T : TypeId} {β : Nat} {rb : World → Option Nat} {A B : World} (h : StR T β rb A B) (k : Nat) (o : Obj) (ho : A.heap[k]? = some o) (hc : o.isCells = false) : B.heap[k]? = some o := by
  rcases h with h | ⟨g, _, _, ⟨u, v, hg⟩, h, _⟩
  · exact (h.block k (Array.getElem?_eq_some_iff.1 ho).1).trans ho
  · refine (h k ?_).trans ho
    intro e; subst e
    rw [hg] at ho; injection ho with ho; subst ho; cases hc
theorem StR.low {T : TypeId} {β : Nat} {rb : World → Option Nat} {A B : World} (h : StR T β rb A B) {b : Nat} (hb : b < β) (hl : b < A.heap.size) : B.heap[b]? = A.heap[b]? := by
  rcases h with h | ⟨g, hg, _, _, h, _⟩
  · exact h.block b hl
  · exact h b (by omega)
theorem StR.size {T : TypeId} {β : Nat} {rb : World → Option Nat} {A B : World} (h : StR T β rb A B) : A.heap.size ≤ B.heap.size := by
  rcases h with h | ⟨g, _, _, _, _, h, _⟩
  · exact h.size
  · omega
theorem StR.below {T : TypeId} {β m : Nat} {rb : World → Option Nat} {A B : World} (h : StR T β rb A B) (hm : m ≤ β) (hl : m ≤ A.heap.size) : Below m A B := by
  rcases h with h | ⟨g, hg, _, _, _, _, h⟩
  · exact h.mono hl
  · exact h.mono (by omega)
end Go.Silo
namespace Go.Proofs.Ytjeecdoffoahkaa
open Go.RowKit Go.Silo Go.Shelf
attribute [local go_sem] Oper.semAt_some

theorem row_set1 {w : World} {g : Nat} {a v : Value} {T : TypeId} {fr : Nat × Nat} (h : w.heap[g]? = some (.cells #[a] T fr)) : (w.setCell ⟨g, 0, none⟩ v).heap[g]? = some (.cells #[v] T fr) := by
  simp [World.setCell, Array.getElem?_modify, h]
/-- What Next answers. -/
def nextR (s : Shape) (b : Book) (c : Cursor) : Cursor × Int := if (bookOk s b && cursorOk s c) = true then (if 0 < b.stripes.length then (nextX s b.stripes c, 0) else (⟨0, 0⟩, 3)) else (⟨0, 0⟩, 1)
theorem cursorOk_of {s : Shape} {c : Cursor} (h : cursorOk s c = true) : -1 ≤ c.stripe ∧ c.stripe ≤ 1073741824 ∧ -1 ≤ c.index ∧ c.index < s.K + s.M := by
  unfold cursorOk at h
  have := of_decide_eq_true h
  omega
theorem bookOk_ids {s : Shape} {b : Book} (h : bookOk s b = true) : ∀ j, j < b.stripes.length → 0 ≤ (b.stripes.getD j default).id ∧ (b.stripes.getD j default).id ≤ 1073741824 := fun j hj => by
  have h1 := stripesOk_each (bookOk_stripes h) j hj
  have h2 := stripeOk_len h1.1
  exact ⟨h2.2.2.2.1, h2.2.2.2.2.1⟩
set_option maxRecDepth 100000 in
set_option maxHeartbeats 4000000 in
theorem Next_c {tg tg0 tg1 tg2 : Bool} {S : Nat → Prop} {w : World} {A0 A1 A2 : Option Addr} {n0 c0 n1 c1 n2 c2 : Nat} {s : Shape} {b : Book} {c : Cursor} (hsi : I64 s.K ∧ I64 s.M ∧ I64 s.size) (hf : Few b) (h : BookR w S tg tg0 tg1 tg2 A0 n0 c0 A1 n1 c1 A2 n2 c2 b) (hS : ∀ k, S k → k < w.heap.size) :
    Calls Try.prog 15 #[.agg #[.int .i64 s.K, .int .i64 s.M, .int .i64 s.size], .agg #[.slice A0 n0 c0, .slice A1 n1 c1, .slice A2 n2 c2, .int .i64 b.next], .agg #[.int .i64 c.stripe, .int .i64 c.index]] w (RetV (.tuple #[.agg #[.int .i64 (nextR s b c).1.stripe, .int .i64 (nextR s b c).1.index], .int .i64 (nextR s b c).2]) w) := by
  have HM := Lib.hid (fun W (hW : Below w.heap.size w W) => may_c (w := W) (c := c) hsi hf (h.all hW))
  have hn0 : n0 ≤ 4000 := by have := hf.st; have := h.st.len; omega
  have HL := Lib.hid h.st.len
  have HS := Lib.hid (fun W (hW : Below w.heap.size w W) => h.st.all hW)
  have HSW := Lib.hid hS; clear hS
  clear h hf hsi
  have HGOOD := Lib.hid (fun (hq : (bookOk s b && cursorOk s c) = true) => (show (shapeOk s = true ∧ stripesOk s b.next b.stripes = true) ∧ (∀ j, j < b.stripes.length → 0 ≤ (b.stripes.getD j default).id ∧ (b.stripes.getD j default).id ≤ 1073741824) ∧ (-1 ≤ c.stripe ∧ c.stripe ≤ 1073741824 ∧ -1 ≤ c.index ∧ c.index < s.K + s.M) from by
    rw [Bool.and_eq_true] at hq
    exact ⟨⟨bookOk_shape hq.1, bookOk_stripes hq.1⟩, bookOk_ids hq.1, cursorOk_of hq.2⟩))
  have HR : Hid (nextR s b c = if (bookOk s b && cursorOk s c) = true then (if 0 < n0 then (nextX s b.stripes c, 0) else (⟨0, 0⟩, 3)) else (⟨0, 0⟩, 1)) := Lib.hid (by unfold nextR; rw [HL.out])
  generalize (bookOk s b && cursorOk s c) = q at *
  generalize nextR s b c = R at *
  have hal : Below w.heap.size w (((((w.alloc (.cells #[.int .i64 s.K, .int .i64 s.M, .int .i64 s.size] 23)).alloc (.cells #[.slice A0 n0 c0, .slice A1 n1 c1, .slice A2 n2 c2, .int .i64 b.next] 28)).alloc (.cells #[.int .i64 c.stripe, .int .i64 c.index] 44)).alloc (.cells #[.int .i64 0, .int .i64 0] 44)).alloc (.cells #[.int .i64 0] 39)) := (by repeat' (first | (with_reducible exact Below.refl _ _) | (with_reducible refine Below.alloc ?_ ?_ _) | (with_reducible refine Below.drew ?_) | (with_reducible refine below_drewN ?_ _) | (with_reducible refine Below.setCell ?_ ?_ _) | (refine via ?_ (by with_reducible assumption) ?_) | (refine via ?_ (below_ext _ _) ?_) | go_size))
  have hr0 : (((((w.alloc (.cells #[.int .i64 s.K, .int .i64 s.M, .int .i64 s.size] 23)).alloc (.cells #[.slice A0 n0 c0, .slice A1 n1 c1, .slice A2 n2 c2, .int .i64 b.next] 28)).alloc (.cells #[.int .i64 c.stripe, .int .i64 c.index] 44)).alloc (.cells #[.int .i64 0, .int .i64 0] 44)).alloc (.cells #[.int .i64 0] 39)).heap[w.heap.size]? = some (.cells #[.int .i64 s.K, .int .i64 s.M, .int .i64 s.size] 23 (0, 0)) := by
    rw [Below.heap_alloc _ _ _ (by simp; try omega), Below.heap_alloc _ _ _ (by simp; try omega), Below.heap_alloc _ _ _ (by simp; try omega), Below.heap_alloc _ _ _ (by simp; try omega)]
    have := heap_alloc_new w (.cells #[.int .i64 s.K, .int .i64 s.M, .int .i64 s.size] 23)
    simpa only [World.size_alloc] using this
  have hr1 : (((((w.alloc (.cells #[.int .i64 s.K, .int .i64 s.M, .int .i64 s.size] 23)).alloc (.cells #[.slice A0 n0 c0, .slice A1 n1 c1, .slice A2 n2 c2, .int .i64 b.next] 28)).alloc (.cells #[.int .i64 c.stripe, .int .i64 c.index] 44)).alloc (.cells #[.int .i64 0, .int .i64 0] 44)).alloc (.cells #[.int .i64 0] 39)).heap[w.heap.size + 1]? = some (.cells #[.slice A0 n0 c0, .slice A1 n1 c1, .slice A2 n2 c2, .int .i64 b.next] 28 (0, 0)) := by
    rw [Below.heap_alloc _ _ _ (by simp; try omega), Below.heap_alloc _ _ _ (by simp; try omega), Below.heap_alloc _ _ _ (by simp; try omega)]
    have := heap_alloc_new (w.alloc (.cells #[.int .i64 s.K, .int .i64 s.M, .int .i64 s.size] 23)) (.cells #[.slice A0 n0 c0, .slice A1 n1 c1, .slice A2 n2 c2, .int .i64 b.next] 28)
    simpa only [World.size_alloc] using this
  have hr2 : (((((w.alloc (.cells #[.int .i64 s.K, .int .i64 s.M, .int .i64 s.size] 23)).alloc (.cells #[.slice A0 n0 c0, .slice A1 n1 c1, .slice A2 n2 c2, .int .i64 b.next] 28)).alloc (.cells #[.int .i64 c.stripe, .int .i64 c.index] 44)).alloc (.cells #[.int .i64 0, .int .i64 0] 44)).alloc (.cells #[.int .i64 0] 39)).heap[w.heap.size + 1 + 1]? = some (.cells #[.int .i64 c.stripe, .int .i64 c.index] 44 (0, 0)) := by
    rw [Below.heap_alloc _ _ _ (by simp; try omega), Below.heap_alloc _ _ _ (by simp; try omega)]
    have := heap_alloc_new ((w.alloc (.cells #[.int .i64 s.K, .int .i64 s.M, .int .i64 s.size] 23)).alloc (.cells #[.slice A0 n0 c0, .slice A1 n1 c1, .slice A2 n2 c2, .int .i64 b.next] 28)) (.cells #[.int .i64 c.stripe, .int .i64 c.index] 44)
    simpa only [World.size_alloc] using this
  have hr3 : (((((w.alloc (.cells #[.int .i64 s.K, .int .i64 s.M, .int .i64 s.size] 23)).alloc (.cells #[.slice A0 n0 c0, .slice A1 n1 c1, .slice A2 n2 c2, .int .i64 b.next] 28)).alloc (.cells #[.int .i64 c.stripe, .int .i64 c.index] 44)).alloc (.cells #[.int .i64 0, .int .i64 0] 44)).alloc (.cells #[.int .i64 0] 39)).heap[w.heap.size + 1 + 1 + 1]? = some (.cells #[.int .i64 0, .int .i64 0] 44 (0, 0)) := by
    rw [Below.heap_alloc _ _ _ (by simp; try omega)]
    have := heap_alloc_new (((w.alloc (.cells #[.int .i64 s.K, .int .i64 s.M, .int .i64 s.size] 23)).alloc (.cells #[.slice A0 n0 c0, .slice A1 n1 c1, .slice A2 n2 c2, .int .i64 b.next] 28)).alloc (.cells #[.int .i64 c.stripe, .int .i64 c.index] 44)) (.cells #[.int .i64 0, .int .i64 0] 44)
    simpa only [World.size_alloc] using this
  have hr4 : (((((w.alloc (.cells #[.int .i64 s.K, .int .i64 s.M, .int .i64 s.size] 23)).alloc (.cells #[.slice A0 n0 c0, .slice A1 n1 c1, .slice A2 n2 c2, .int .i64 b.next] 28)).alloc (.cells #[.int .i64 c.stripe, .int .i64 c.index] 44)).alloc (.cells #[.int .i64 0, .int .i64 0] 44)).alloc (.cells #[.int .i64 0] 39)).heap[w.heap.size + 1 + 1 + 1 + 1]? = some (.cells #[.int .i64 0] 39 (0, 0)) := by
    have := heap_alloc_new ((((w.alloc (.cells #[.int .i64 s.K, .int .i64 s.M, .int .i64 s.size] 23)).alloc (.cells #[.slice A0 n0 c0, .slice A1 n1 c1, .slice A2 n2 c2, .int .i64 b.next] 28)).alloc (.cells #[.int .i64 c.stripe, .int .i64 c.index] 44)).alloc (.cells #[.int .i64 0, .int .i64 0] 44)) (.cells #[.int .i64 0] 39)
    simpa only [World.size_alloc] using this
  have hz : w.heap.size + 1 + 1 + 1 + 1 < (((((w.alloc (.cells #[.int .i64 s.K, .int .i64 s.M, .int .i64 s.size] 23)).alloc (.cells #[.slice A0 n0 c0, .slice A1 n1 c1, .slice A2 n2 c2, .int .i64 b.next] 28)).alloc (.cells #[.int .i64 c.stripe, .int .i64 c.index] 44)).alloc (.cells #[.int .i64 0, .int .i64 0] 44)).alloc (.cells #[.int .i64 0] 39)).heap.size := by simp
  refine (callsIn_wide (n := 9)).1 ?_
  refine callsIn_of_wp_marks Try.func15 rfl trivial ?_ rfl
  simp only [Try.ntmps15, List.size_toArray, List.length_cons, List.length_nil, Nat.reduceAdd, Nat.reduceSub, Array.replicate_succ, Array.replicate_zero, List.push_toArray, List.append_toArray, List.cons_append, List.nil_append]
  gi_wp2_with fail
  refine ⟨trivial, (callsIn_wide.2 (HM.out _ (by repeat' (first | (with_reducible exact Below.refl _ _) | (with_reducible refine Below.alloc ?_ ?_ _) | (with_reducible refine Below.drew ?_) | (with_reducible refine below_drewN ?_ _) | (with_reducible refine Below.setCell ?_ ?_ _) | (refine via ?_ (by with_reducible assumption) ?_) | (refine via ?_ (below_ext _ _) ?_) | go_size)))).mono ?_⟩
  rintro e w1 ⟨rfl, hb1⟩
  (obtain ⟨hc_w1, hf_w1⟩ := bcell hb1; have z_w1_0 : w.heap.size < w1.heap.size := (by have := hb1.size; first | omega | (simp at this; omega)); have z_w1_1 : w.heap.size + 1 < w1.heap.size := (by have := hb1.size; first | omega | (simp at this; omega)); have z_w1_2 : w.heap.size + 1 + 1 < w1.heap.size := (by have := hb1.size; first | omega | (simp at this; omega)); have z_w1_3 : w.heap.size + 1 + 1 + 1 < w1.heap.size := (by have := hb1.size; first | omega | (simp at this; omega)); have z_w1_4 : w.heap.size + 1 + 1 + 1 + 1 < w1.heap.size := (by have := hb1.size; first | omega | (simp at this; omega)))
  cases q with
  | false =>
    have HE : Hid (R = (⟨0, 0⟩, 1)) := Lib.hid HR.out
    gi_wp2
    refine ⟨.tuple #[.agg #[.int .i64 0, .int .i64 0], .int .i64 1], by simp [results, Try.results15, go_sem, *]; done, ?_⟩
    exact ⟨by rw [HE.out], (by repeat' (first | (with_reducible exact Below.refl _ _) | (with_reducible refine Below.alloc ?_ ?_ _) | (with_reducible refine Below.drew ?_) | (with_reducible refine below_drewN ?_ _) | (with_reducible refine Below.setCell ?_ ?_ _) | (refine via ?_ (by with_reducible assumption) ?_) | (refine via ?_ (below_ext _ _) ?_) | go_size))⟩
  | true =>
    obtain ⟨⟨hsh, hso⟩, hid, hcc⟩ := HGOOD.out rfl
    have HSH := Lib.hid hsh
    have HSO := Lib.hid hso
    have HIDS := Lib.hid hid
    have HCC := Lib.hid hcc
    clear hsh hso hid hcc HGOOD
    clear hr0 hr1 hr2
    gi_wp2_with fail
    refine ⟨trivial, (callsIn_wide.2 round_c).mono ?_⟩
    rintro e w4 ⟨rfl, rfl⟩
    obtain ⟨wl, hwl⟩ : ∃ wl, wl = (((w1.alloc (.cells #[.int .i64 s.K, .int .i64 s.M, .int .i64 s.size] 23)).alloc (.cells #[.slice A0 n0 c0, .slice A1 n1 c1, .slice A2 n2 c2, .int .i64 b.next] 28)).alloc (.cells #[.int .i64 c.stripe, .int .i64 c.index] 44)) := ⟨_, rfl⟩
    have hbl : Below w1.heap.size w1 wl := by rw [hwl]; exact ((Below.refl _ _).alloc (Nat.le_refl _) _ |>.alloc (by simp) _ |>.alloc (by simp; omega) _)
    have qs : wl.heap[w1.heap.size]? = some (.cells #[.int .i64 s.K, .int .i64 s.M, .int .i64 s.size] 23 (0, 0)) := by
      rw [hwl, Below.heap_alloc _ _ _ (by simp; omega), Below.heap_alloc _ _ _ (by simp)]
      exact heap_alloc_new _ _
    have qb : wl.heap[w1.heap.size + 1]? = some (.cells #[.slice A0 n0 c0, .slice A1 n1 c1, .slice A2 n2 c2, .int .i64 b.next] 28 (0, 0)) := by
      rw [hwl, Below.heap_alloc _ _ _ (by simp)]
      have := heap_alloc_new (w1.alloc (.cells #[.int .i64 s.K, .int .i64 s.M, .int .i64 s.size] 23)) (.cells #[.slice A0 n0 c0, .slice A1 n1 c1, .slice A2 n2 c2, .int .i64 b.next] 28)
      simpa only [World.size_alloc] using this
    have qc : wl.heap[w1.heap.size + 1 + 1]? = some (.cells #[.int .i64 c.stripe, .int .i64 c.index] 44 (0, 0)) := by
      rw [hwl]
      have := heap_alloc_new ((w1.alloc (.cells #[.int .i64 s.K, .int .i64 s.M, .int .i64 s.size] 23)).alloc (.cells #[.slice A0 n0 c0, .slice A1 n1 c1, .slice A2 n2 c2, .int .i64 b.next] 28)) (.cells #[.int .i64 c.stripe, .int .i64 c.index] 44)
      simpa only [World.size_alloc] using this
    have hsz : w1.heap.size + 3 = wl.heap.size := by rw [hwl]; simp
    have hbW : Below w.heap.size w w1 := (by repeat' (first | (with_reducible exact Below.refl _ _) | (with_reducible refine Below.alloc ?_ ?_ _) | (with_reducible refine Below.drew ?_) | (with_reducible refine below_drewN ?_ _) | (with_reducible refine Below.setCell ?_ ?_ _) | (refine via ?_ (by with_reducible assumption) ?_) | (refine via ?_ (below_ext _ _) ?_) | go_size))
    have q6 := (hbl.block _ z_w1_3).trans ((hb1.block _ (by simp)).trans hr3)
    have q7 := (hbl.block _ z_w1_4).trans ((hb1.block _ (by simp)).trans hr4)
    have hbWl : Below w.heap.size w wl := hbW.trans (hbl.mono (by have := hbW.size; omega))
    have HSL := Lib.hid (HS.out wl hbWl)
    have hw1s : w.heap.size + 1 + 1 + 1 + 1 < w1.heap.size := z_w1_4
    simp only
    rw [← hwl]
    clear hwl hbl hb1 hal hr3 hr4 hz hc_w1 hf_w1 z_w1_0 z_w1_1 z_w1_2 z_w1_3 z_w1_4 hbW
    have HQ := Lib.hid (And.intro qs (And.intro qb qc)); clear qs qb qc
    have HQ6 := Lib.hid (And.intro q6 q7); clear q6 q7
    have HBWl := Lib.hid hbWl; clear hbWl
    gi_wp2
    refine rangeFunc_done (α := Cursor) (encs := fun x => #[.agg #[.int .i64 x.stripe, .int .i64 x.index]]) rfl (by decide) (gf := 125) (lb := #[.pointer (some ⟨w1.heap.size, 0, none⟩), .pointer (some ⟨w1.heap.size + 1, 0, none⟩), .pointer (some ⟨w1.heap.size + 1 + 1, 0, none⟩)]) rfl trivial (enters_of Try.func125 rfl rfl) (fun _ => rfl)
      (StR 44 wl.heap.size (fun _ => none)) (KR wl.heap.size (fun _ => False) (fun _ => none))
      (fun pre x _ => x = turnsC s b.stripes c (pre.length + 1) ∧ 0 < n0) (fun _ => n0 = 0)
      (fun pre V => pre = [] ∧ (V.heap[w.heap.size + 1 + 1 + 1]? = some (.cells #[.int .i64 0, .int .i64 0] 44 (0, 0)) ∧ V.heap[w.heap.size + 1 + 1 + 1 + 1]? = some (.cells #[.int .i64 0] 39 (0, 0))) ∧ Below w.heap.size w V ∧ wl.heap.size ≤ V.heap.size)
      (fun cd _ V => cd = .ret ∧ 0 < n0 ∧ (V.heap[w.heap.size + 1 + 1 + 1]? = some (.cells #[.int .i64 (nextX s b.stripes c).stripe, .int .i64 (nextX s b.stripes c).index] 44 (0, 0)) ∧ V.heap[w.heap.size + 1 + 1 + 1 + 1]? = some (.cells #[.int .i64 0] 39 (0, 0))) ∧ Below w.heap.size w V)
      ?hSt ?hKt ?hKb ?hI ?hIx ?hG ?hIS ?h0 ?hseq ?a1 ?AW ?Aft ?hAWI ?hAWG ?hAWK ?hAWB ?hAft ?hAft0 ?hassign ?hbody ?hdone ?hstop
    case a1 => exact fun x V => { tmps := #[.agg #[.int .i64 s.K, .int .i64 s.M, .int .i64 s.size], .agg #[.slice A0 n0 c0, .slice A1 n1 c1, .slice A2 n2 c2, .int .i64 b.next], .agg #[.int .i64 c.stripe, .int .i64 c.index], .pointer (some ⟨w.heap.size, 0, none⟩), .pointer (some ⟨w.heap.size + 1, 0, none⟩), .pointer (some ⟨w.heap.size + 1 + 1, 0, none⟩), .pointer (some ⟨w.heap.size + 1 + 1 + 1, 0, none⟩), .pointer (some ⟨w.heap.size + 1 + 1 + 1 + 1, 0, none⟩), .pointer (some ⟨V.heap.size, 0, none⟩),
        .agg #[.int .i64 s.K, .int .i64 s.M, .int .i64 s.size], .agg #[.slice A0 n0 c0, .slice A1 n1 c1, .slice A2 n2 c2, .int .i64 b.next], .agg #[.int .i64 c.stripe, .int .i64 c.index], .bool true, .bool false, undef, .agg #[.int .i64 s.K, .int .i64 s.M, .int .i64 s.size], .agg #[.slice A0 n0 c0, .slice A1 n1 c1, .slice A2 n2 c2, .int .i64 b.next], .agg #[.int .i64 c.stripe, .int .i64 c.index], .func (.func 125) #[] #[.pointer (some ⟨w1.heap.size, 0, none⟩), .pointer (some ⟨w1.heap.size + 1, 0, none⟩), .pointer (some ⟨w1.heap.size + 1 + 1, 0, none⟩)], .agg #[.int .i64 x.stripe, .int .i64 x.index], undef, undef], defers := [] }
    case AW => exact fun x V => V.alloc (.cells #[.int .i64 x.stripe, .int .i64 x.index] 44)
    case Aft => exact fun x V0 V => V.heap[V0.heap.size]? = some (.cells #[.int .i64 x.stripe, .int .i64 x.index] 44 (0, 0)) ∧ wl.heap.size ≤ V0.heap.size
    case hSt => exact fun A B h k o _ ho hc => h.keeps k o ho hc
    case hKt => exact fun h k => h.trans k
    case hKb => exact fun V l o o' hl ho hc => KR.put (fun _ _ _ _ => rfl) V l o o' hl ho hc
    case hI =>
      rintro pre V V' row ⟨h1, ⟨h2, h3⟩, h4, h5⟩ hg hr
      have hl : ∀ k, k < wl.heap.size → V'.heap[k]? = V.heap[k]? := fun k hk => hg.block k (by omega) (fun e => by have := (hr k e.symm).1; omega)
      exact ⟨h1, ⟨(hl _ (by omega)).trans h2, (hl _ (by omega)).trans h3⟩, h4.grown hg (by omega) (fun r e => by have := (hr r e).1; omega), by have := hg.size; omega⟩
    case hIx =>
      rintro cd pre V V' row ⟨h1, h0, ⟨h2, h3⟩, h4⟩ hg hr
      have hne : ∀ (k : Nat) (o : Obj), V.heap[k]? = some o → o.isCells = true → V'.heap[k]? = V.heap[k]? := fun k o ho hc => hg.block k (Array.getElem?_eq_some_iff.1 ho).1 (fun e => by
        obtain ⟨_, o', ho', hc'⟩ := hr k e.symm
        rw [ho] at ho'; injection ho' with ho'; subst ho'; rw [hc] at hc'; cases hc')
      exact ⟨h1, h0, ⟨(hne _ _ h2 rfl).trans h2, (hne _ _ h3 rfl).trans h3⟩, h4.grown hg h4.size (fun r e => by have := (hr r e).1; omega)⟩
    case hG => exact fun pre x V V' row h _ _ => h
    case hIS =>
      rintro pre A B ⟨h1, ⟨h2, h3⟩, h4, h5⟩ st
      exact ⟨h1, ⟨(st.low (by omega) (by omega)).trans h2, (st.low (by omega) (by omega)).trans h3⟩, h4.trans (st.below (by omega) h4.size), Nat.le_trans h5 st.size⟩
    case h0 => exact ⟨rfl, HQ6.out, HBWl.out, Nat.le_refl _⟩
    case hseq =>
      intro l J Jx V hbw hJS hJI hY hJ0
      refine round1_in (n := 8) (S := S) (X := fun _ => False) (rb := fun _ => none) (β := wl.heap.size) (bs := w1.heap.size) (bb := w1.heap.size + 1) (bc := w1.heap.size + 1 + 1) (N := 1) (s := s) (l := b.stripes) (nx := b.next) (c := c) l J Jx V HSH.out hn0 (fun i j h1 h2 => stripesOk_ids HSO.out i j h1 (by have := HL.out; omega)) HIDS.out HCC.out
        ⟨(hbw.block _ (by omega)).trans HQ.out.1, (hbw.block _ (by omega)).trans HQ.out.2.1⟩ ((hbw.block _ (by omega)).trans HQ.out.2.2) (HSL.out.all hbw)
        (fun k hk => ⟨by rcases hk with hk | hk | hk | hk <;> first | (have := HSW.out _ hk; have := HBWl.out.size; omega) | omega, fun h => h⟩) (fun k hk => absurd hk (fun h => h)) hbw.size (fun _ _ _ _ => rfl) (fun _ _ _ _ _ _ => rfl) rfl
        (fun pre A B hj hb => hJS pre A B hj (.inl hb)) (fun pre A B g hj h1 h2 h3 h4 h5 h6 => hJS pre A B hj (.inr ⟨g, h1, h2, h3, h4, h5, h6⟩))
        (fun pre A hj => by rw [(hJI pre A hj).1]; exact Nat.zero_lt_one) (fun pre A hj h0 => hY pre _ A hj ⟨rfl, h0⟩) hJ0
    case hAWI =>
      rintro pre x V ⟨h1, ⟨h2, h3⟩, h4, h5⟩
      exact ⟨h1, ⟨(Below.heap_alloc _ _ _ (by omega)).trans h2, (Below.heap_alloc _ _ _ (by omega)).trans h3⟩, h4.alloc h4.size _, by simp; omega⟩
    case hAWG => exact fun pre x V h => h
    case hAWK =>
      intro x V hwl1
      exact ⟨by simp, .inl rfl, fun k hk _ => Below.heap_alloc _ _ _ (by have := hwl1; omega), fun k cs T fr hc _ _ => Below.heap_alloc _ _ _ (Array.getElem?_eq_some_iff.1 hc).1⟩
    case hAWB => exact fun x V k o ho _ => (Below.heap_alloc _ _ _ (Array.getElem?_eq_some_iff.1 ho).1).trans ho
    case hAft =>
      rintro x V0 _ V V' row ⟨h1, h2⟩ hg hr
      refine ⟨(hg.block _ (Array.getElem?_eq_some_iff.1 h1).1 (fun e => ?_)).trans h1, h2⟩
      obtain ⟨_, o', ho', hc'⟩ := hr _ e.symm
      rw [h1] at ho'; injection ho' with ho'; subst ho'; cases hc'
    case hAft0 => exact fun x V0 h => ⟨heap_alloc_new _ _, h⟩
    case hassign =>
      intro l x V K hK
      gi_wp2
      exact hK
    case hbody =>
      rintro l pre x V0 V ⟨rfl, ⟨h6, h7⟩, hB, hs⟩ ⟨hx, hpos⟩ ⟨hxr, hV0⟩
      have x0 := (cell_of_row _ _ 0 _ _ _ hxr).trans (show _ = some (.int .i64 x.stripe : Value) from rfl)
      have x1 := (cell_of_row _ _ 1 _ _ _ hxr).trans (show _ = some (.int .i64 x.index : Value) from rfl)
      have y0 := (cell_of_row _ _ 0 _ _ _ h6).trans (show _ = some (.int .i64 0 : Value) from rfl)
      have y1 := (cell_of_row _ _ 1 _ _ _ h6).trans (show _ = some (.int .i64 0 : Value) from rfl)
      have u0 := (cell_of_row _ _ 0 _ _ _ h7).trans (show _ = some (.int .i64 0 : Value) from rfl)
      have f0 := frozen_of_row _ _ 0 _ _ h6
      have f1 := frozen_of_row _ _ 1 _ _ h6
      have f2 := frozen_of_row _ _ 0 _ _ h7
      have HXD := Lib.hid hx; clear hx
      have HFIN := Lib.hid (show ∀ Vn, Vn = ((V.setCell ⟨w.heap.size + 1 + 1 + 1, 0, none⟩ (.int .i64 x.stripe)).setCell ⟨w.heap.size + 1 + 1 + 1, 1, none⟩ (.int .i64 x.index)).setCell ⟨w.heap.size + 1 + 1 + 1 + 1, 0, none⟩ (.int .i64 0) →
          KeepsFrom wl.heap.size V Vn ∧ (V.heap.size = V.heap.size) ∧ (Vn.heap[w.heap.size + 1 + 1 + 1]? = some (.cells #[.int .i64 (nextX s b.stripes c).stripe, .int .i64 (nextX s b.stripes c).index] 44 (0, 0)) ∧ Vn.heap[w.heap.size + 1 + 1 + 1 + 1]? = some (.cells #[.int .i64 0] 39 (0, 0))) ∧ Below w.heap.size w Vn from by
        rintro Vn rfl
        have hx' : x = nextX s b.stripes c := HXD.out
        have e6 := row_set2 (u := .int .i64 x.stripe) (v := .int .i64 x.index) h6
        have e6' := (Below.heap_setCell ((V.setCell ⟨w.heap.size + 1 + 1 + 1, 0, none⟩ (.int .i64 x.stripe)).setCell ⟨w.heap.size + 1 + 1 + 1, 1, none⟩ (.int .i64 x.index)) ⟨w.heap.size + 1 + 1 + 1 + 1, 0, none⟩ (.int .i64 0) (w.heap.size + 1 + 1 + 1) (by simp)).trans e6
        have e7 : ((V.setCell ⟨w.heap.size + 1 + 1 + 1, 0, none⟩ (.int .i64 x.stripe)).setCell ⟨w.heap.size + 1 + 1 + 1, 1, none⟩ (.int .i64 x.index)).heap[w.heap.size + 1 + 1 + 1 + 1]? = some (.cells #[.int .i64 0] 39 (0, 0)) := (Below.heap_setCell _ ⟨w.heap.size + 1 + 1 + 1, 1, none⟩ _ _ (by simp)).trans ((Below.heap_setCell _ ⟨w.heap.size + 1 + 1 + 1, 0, none⟩ _ _ (by simp)).trans h7)
        refine ⟨⟨by simp, fun k o hk ho hc => ?_⟩, rfl, ⟨by rw [← hx']; exact e6', row_set1 e7⟩, ((hB.setCell (p := ⟨w.heap.size + 1 + 1 + 1, 0, none⟩) (by simp; omega) _).setCell (p := ⟨w.heap.size + 1 + 1 + 1, 1, none⟩) (by simp; omega) _).setCell (p := ⟨w.heap.size + 1 + 1 + 1 + 1, 0, none⟩) (by simp; omega) _⟩
        refine ((Below.heap_setCell _ ⟨w.heap.size + 1 + 1 + 1 + 1, 0, none⟩ _ _ (by simp; omega)).trans ((Below.heap_setCell _ ⟨w.heap.size + 1 + 1 + 1, 1, none⟩ _ _ (by simp; omega)).trans (Below.heap_setCell _ ⟨w.heap.size + 1 + 1 + 1, 0, none⟩ _ _ (by simp; omega)))).trans ho)
      clear h6 h7 hxr hB
      gi_wp2
      obtain ⟨g1, _, g2, g3⟩ := HFIN.out _ rfl
      exact ⟨g1, rfl, g2, g3⟩
    case hdone =>
      rintro D pre V hD ⟨_, ⟨h6, h7⟩, hB, hs⟩ hz0 hK
      have HE : Hid (R = (⟨0, 0⟩, 3)) := Lib.hid (by rw [HR.out, if_pos (by trivial), if_neg (by omega)])
      clear HR
      have HB := Lib.hid hB; clear hB
      have y0 := (cell_of_row _ _ 0 _ _ _ h6).trans (show _ = some (.int .i64 0 : Value) from rfl)
      have y1 := (cell_of_row _ _ 1 _ _ _ h6).trans (show _ = some (.int .i64 0 : Value) from rfl)
      have u0 := (cell_of_row _ _ 0 _ _ _ h7).trans (show _ = some (.int .i64 0 : Value) from rfl)
      have f0 := frozen_of_row _ _ 0 _ _ h6
      have f1 := frozen_of_row _ _ 1 _ _ h6
      have f2 := frozen_of_row _ _ 0 _ _ h7
      clear hz0
      gi_wp2
      obtain ⟨Vn, hVn⟩ : ∃ Vn, Vn = ((V.setCell ⟨w.heap.size + 1 + 1 + 1, 0, none⟩ (.int .i64 0)).setCell ⟨w.heap.size + 1 + 1 + 1, 1, none⟩ (.int .i64 0)).setCell ⟨w.heap.size + 1 + 1 + 1 + 1, 0, none⟩ (.int .i64 3) := ⟨_, rfl⟩
      rw [← hVn]
      have e6 := (Below.heap_setCell ((V.setCell ⟨w.heap.size + 1 + 1 + 1, 0, none⟩ (.int .i64 0)).setCell ⟨w.heap.size + 1 + 1 + 1, 1, none⟩ (.int .i64 0)) ⟨w.heap.size + 1 + 1 + 1 + 1, 0, none⟩ (.int .i64 3) (w.heap.size + 1 + 1 + 1) (by simp)).trans (row_set2 (u := .int .i64 0) (v := .int .i64 0) h6)
      have e7 : ((V.setCell ⟨w.heap.size + 1 + 1 + 1, 0, none⟩ (.int .i64 0)).setCell ⟨w.heap.size + 1 + 1 + 1, 1, none⟩ (.int .i64 0)).heap[w.heap.size + 1 + 1 + 1 + 1]? = some (.cells #[.int .i64 0] 39 (0, 0)) := (Below.heap_setCell _ ⟨w.heap.size + 1 + 1 + 1, 1, none⟩ _ _ (by simp)).trans ((Below.heap_setCell _ ⟨w.heap.size + 1 + 1 + 1, 0, none⟩ _ _ (by simp)).trans h7)
      have e7' := row_set1 (v := .int .i64 3) e7
      have hK2 : Vn.heap[D]? = some (.deferred (some [])) := by
        rw [hVn]
        exact (Below.heap_setCell _ ⟨w.heap.size + 1 + 1 + 1 + 1, 0, none⟩ _ _ (by simp; omega)).trans ((Below.heap_setCell _ ⟨w.heap.size + 1 + 1 + 1, 1, none⟩ _ _ (by simp; omega)).trans ((Below.heap_setCell _ ⟨w.heap.size + 1 + 1 + 1, 0, none⟩ _ _ (by simp; omega)).trans hK))
      have hBn : Below w.heap.size w Vn := by
        rw [hVn]
        exact ((HB.out.setCell (p := ⟨w.heap.size + 1 + 1 + 1, 0, none⟩) (by simp; omega) _).setCell (p := ⟨w.heap.size + 1 + 1 + 1, 1, none⟩) (by simp; omega) _).setCell (p := ⟨w.heap.size + 1 + 1 + 1 + 1, 0, none⟩) (by simp; omega) _
      rw [← hVn] at e6 e7'
      clear e7 hVn y0 y1 u0 f0 f1 f2
      refine ⟨by simp, .inl ⟨_, _, rfl, run_takeDeferred hK2, ?_⟩⟩
      have hg := grownBy_putObj' Vn D (.deferred none)
      have z6 := (World.putObj_heap_other (w := Vn) (o := .deferred none) (show w.heap.size + 1 + 1 + 1 ≠ D by omega)).trans e6
      have z7 := (World.putObj_heap_other (w := Vn) (o := .deferred none) (show w.heap.size + 1 + 1 + 1 + 1 ≠ D by omega)).trans e7'
      have hB2 := hBn.grown hg (by have := hBn.size; omega) (fun r e => by cases e; omega)
      generalize Vn.putObj D (.deferred none) = W2 at *
      have y0 := (cell_of_row _ _ 0 _ _ _ z6).trans (show _ = some (.int .i64 0 : Value) from rfl)
      have y1 := (cell_of_row _ _ 1 _ _ _ z6).trans (show _ = some (.int .i64 0 : Value) from rfl)
      have u0 := (cell_of_row _ _ 0 _ _ _ z7).trans (show _ = some (.int .i64 3 : Value) from rfl)
      refine ⟨.tuple #[.agg #[.int .i64 0, .int .i64 0], .int .i64 3], by simp [results, Try.results15, go_sem, y0, y1, u0]; done, ?_⟩
      exact ⟨by rw [HE.out], hB2⟩
    case hstop =>
      rintro D cd pre V hD ⟨rfl, hpos, ⟨h6, h7⟩, hB⟩ hK
      have HE : Hid (R = (nextX s b.stripes c, 0)) := Lib.hid (by rw [HR.out, if_pos (by trivial), if_pos hpos])
      generalize nextX s b.stripes c = nx at *
      clear HR
      gi_wp2
      refine ⟨by simp, .inl ⟨_, _, rfl, run_takeDeferred hK, ?_⟩⟩
      have hg := grownBy_putObj' V D (.deferred none)
      have z6 := (World.putObj_heap_other (w := V) (o := .deferred none) (show w.heap.size + 1 + 1 + 1 ≠ D by omega)).trans h6
      have z7 := (World.putObj_heap_other (w := V) (o := .deferred none) (show w.heap.size + 1 + 1 + 1 + 1 ≠ D by omega)).trans h7
      have hB2 := hB.grown hg (by have := hB.size; omega) (fun r e => by cases e; omega)
      generalize V.putObj D (.deferred none) = W2 at *
      have y0 := (cell_of_row _ _ 0 _ _ _ z6).trans (show _ = some (.int .i64 nx.stripe : Value) from rfl)
      have y1 := (cell_of_row _ _ 1 _ _ _ z6).trans (show _ = some (.int .i64 nx.index : Value) from rfl)
      have u0 := (cell_of_row _ _ 0 _ _ _ z7).trans (show _ = some (.int .i64 0 : Value) from rfl)
      refine ⟨.tuple #[.agg #[.int .i64 nx.stripe, .int .i64 nx.index], .int .i64 0], by simp [results, Try.results15, go_sem, y0, y1, u0]; done, ?_⟩
      exact ⟨by rw [HE.out], hB2⟩
end Go.Proofs.Ytjeecdoffoahkaa
