/- rota.Fair: so many pieces behind a cursor. Printed by gen_n7.py. -/
import Derived.Test.YtjeecdoffoahkaaN6r
import Derived.WalkMore
namespace Go.Proofs.Ytjeecdoffoahkaa
open Go.RowKit Go.Silo Go.Shelf
attribute [local go_sem] Oper.semAt_some

/-- What Fair answers. -/
def fairR (s : Shape) (b : Book) (c : Cursor) (m : Int) : List Cursor × Int := if (bookOk s b && cursorOk s c) = true ∧ 0 ≤ m ∧ m ≤ 2000 then (if 0 < b.stripes.length then (piecesX s b.stripes c m.toNat, 0) else ([], 3)) else ([], 1)
def RetFair (xs : List Cursor) (er : Int) (w : World) (e : Ending) (w' : World) : Prop :=
  ∃ A k, e = .returned (.tuple #[.slice A xs.length k, .int .i64 er]) ∧ Sl true 44 cursorE w' (fun b => w.heap.size ≤ b) A xs.length k xs ∧ Below w.heap.size w w'
/-- The boxes of Fair. -/
structure FB (β : Nat) (w : World) (bl bn : Nat) (m : Int) (pre : List Cursor) (V : World) : Prop where
  rl : ∃ A k, V.heap[bl]? = some (.cells #[.slice A pre.length k] 33 (0, 0)) ∧ Silo.Own 44 cursorE V β (fun _ => False) A pre.length k pre
  rn : V.heap[bn]? = some (.cells #[.int .i64 m] 3 (0, 0))
  bw : Below w.heap.size w V
  sz : β ≤ V.heap.size
theorem own_keep {V V' : World} {β n k : Nat} {A : Option Addr} {xs : List Cursor} (h : Silo.Own 44 cursorE V β (fun _ => False) A n k xs) (hs : V.heap.size ≤ V'.heap.size) (hb : ∀ g, ablk A = some g → V'.heap[g]? = V.heap[g]?) : Silo.Own 44 cursorE V' β (fun _ => False) A n k xs :=
  h.frame (fun g hg _ => hg.elim (fun h => h.elim) (fun h => hb g h.symm)) hs
theorem FB.same {β bl bn : Nat} {w V V' : World} {m : Int} {pre : List Cursor} (h : FB β w bl bn m pre V) (hl : bl < β) (hn : bn < β) (hs : V.heap.size ≤ V'.heap.size) (hb : Below w.heap.size w V') (hlow : ∀ k, k < β → V'.heap[k]? = V.heap[k]?) (hr : ∀ g, rowBlk bl V = some g → V'.heap[g]? = V.heap[g]?) : FB β w bl bn m pre V' := by
  obtain ⟨⟨A, k, h1, h2⟩, h3, h4, h5⟩ := h
  exact ⟨⟨A, k, (hlow _ hl).trans h1, own_keep h2 hs (fun g hg => hr g ((rowBlk_of h1).trans hg))⟩, (hlow _ hn).trans h3, hb, Nat.le_trans h5 hs⟩
theorem FB.row {β bl bn : Nat} {w V : World} {m : Int} {pre : List Cursor} (h : FB β w bl bn m pre V) : ∀ g, rowBlk bl V = some g → β ≤ g ∧ g < V.heap.size := by
  obtain ⟨⟨A, k, h1, h2⟩, _⟩ := h
  intro g hg
  exact h2.lt g ((rowBlk_of h1).symm.trans hg)
theorem FB.cells {β bl bn : Nat} {w V : World} {m : Int} {pre : List Cursor} (h : FB β w bl bn m pre V) : ∀ g, rowBlk bl V = some g → ∃ o, V.heap[g]? = some o ∧ o.isCells = true := by
  obtain ⟨⟨A, k, h1, h2⟩, _⟩ := h
  intro g hg
  have hA : ablk A = some g := (rowBlk_of h1).symm.trans hg
  obtain ⟨q, hq⟩ := Silo.Own.shape h2 g hA
  obtain ⟨cs, fr, hc⟩ := cells_of_shape hq
  exact ⟨_, hc, rfl⟩

set_option maxRecDepth 100000 in
set_option maxHeartbeats 4000000 in
theorem Fair_c {tg tg0 tg1 tg2 : Bool} {S : Nat → Prop} {w : World} {A0 A1 A2 : Option Addr} {n0 c0 n1 c1 n2 c2 : Nat} {s : Shape} {b : Book} {c : Cursor} {m : Int} (hsi : I64 s.K ∧ I64 s.M ∧ I64 s.size) (hf : Few b) (h : BookR w S tg tg0 tg1 tg2 A0 n0 c0 A1 n1 c1 A2 n2 c2 b) (hS : ∀ k, S k → k < w.heap.size) :
    Calls Try.prog 20 #[.agg #[.int .i64 s.K, .int .i64 s.M, .int .i64 s.size], .agg #[.slice A0 n0 c0, .slice A1 n1 c1, .slice A2 n2 c2, .int .i64 b.next], .agg #[.int .i64 c.stripe, .int .i64 c.index], .int .i64 m] w (RetFair (fairR s b c m).1 (fairR s b c m).2 w) := by
  have HM := Lib.hid (fun W (hW : Below w.heap.size w W) => may_c (w := W) (c := c) hsi hf (h.all hW))
  obtain ⟨i0, hi, hz0, hz1, hz2⟩ := info_parts Try.info_Cursor
  have hn0 : n0 ≤ 4000 := by have := hf.st; have := h.st.len; omega
  have HL := Lib.hid h.st.len
  have HS := Lib.hid (fun W (hW : Below w.heap.size w W) => h.st.all hW)
  have HSW := Lib.hid hS; clear hS
  clear h hf hsi
  have HGOOD := Lib.hid (fun (hq : (bookOk s b && cursorOk s c) = true) => (show (shapeOk s = true ∧ stripesOk s b.next b.stripes = true) ∧ (∀ j, j < b.stripes.length → 0 ≤ (b.stripes.getD j default).id ∧ (b.stripes.getD j default).id ≤ 1073741824) ∧ (-1 ≤ c.stripe ∧ c.stripe ≤ 1073741824 ∧ -1 ≤ c.index ∧ c.index < s.K + s.M) from by
    rw [Bool.and_eq_true] at hq
    exact ⟨⟨bookOk_shape hq.1, bookOk_stripes hq.1⟩, bookOk_ids hq.1, cursorOk_of hq.2⟩))
  have HR : Hid (fairR s b c m = if (bookOk s b && cursorOk s c) = true ∧ 0 ≤ m ∧ m ≤ 2000 then (if 0 < n0 then (piecesX s b.stripes c m.toNat, 0) else ([], 3)) else ([], 1)) := Lib.hid (by unfold fairR; rw [HL.out])
  have HNIL := Lib.hid (fun (V : World) (hV : Below w.heap.size w V) (er : Int) => (show RetFair [] er w (.returned (.tuple #[.slice none 0 0, .int .i64 er])) V from ⟨none, 0, rfl, Sl.nil_ (by decide), hV⟩))
  generalize (bookOk s b && cursorOk s c) = q at *
  generalize fairR s b c m = R at *
  have hal : Below w.heap.size w ((((w.alloc (.cells #[.int .i64 s.K, .int .i64 s.M, .int .i64 s.size] 23)).alloc (.cells #[.slice A0 n0 c0, .slice A1 n1 c1, .slice A2 n2 c2, .int .i64 b.next] 28)).alloc (.cells #[.int .i64 c.stripe, .int .i64 c.index] 44)).alloc (.cells #[.int .i64 m] 3)) := (by repeat' (first | (with_reducible exact Below.refl _ _) | (with_reducible refine Below.alloc ?_ ?_ _) | (with_reducible refine Below.drew ?_) | (with_reducible refine below_drewN ?_ _) | (with_reducible refine Below.setCell ?_ ?_ _) | (refine via ?_ (by with_reducible assumption) ?_) | (refine via ?_ (below_ext _ _) ?_) | go_size))
  have hr0 : ((((w.alloc (.cells #[.int .i64 s.K, .int .i64 s.M, .int .i64 s.size] 23)).alloc (.cells #[.slice A0 n0 c0, .slice A1 n1 c1, .slice A2 n2 c2, .int .i64 b.next] 28)).alloc (.cells #[.int .i64 c.stripe, .int .i64 c.index] 44)).alloc (.cells #[.int .i64 m] 3)).heap[w.heap.size]? = some (.cells #[.int .i64 s.K, .int .i64 s.M, .int .i64 s.size] 23 (0, 0)) := by
    rw [Below.heap_alloc _ _ _ (by simp; try omega), Below.heap_alloc _ _ _ (by simp; try omega), Below.heap_alloc _ _ _ (by simp; try omega)]
    have := heap_alloc_new w (.cells #[.int .i64 s.K, .int .i64 s.M, .int .i64 s.size] 23)
    simpa only [World.size_alloc] using this
  have hr1 : ((((w.alloc (.cells #[.int .i64 s.K, .int .i64 s.M, .int .i64 s.size] 23)).alloc (.cells #[.slice A0 n0 c0, .slice A1 n1 c1, .slice A2 n2 c2, .int .i64 b.next] 28)).alloc (.cells #[.int .i64 c.stripe, .int .i64 c.index] 44)).alloc (.cells #[.int .i64 m] 3)).heap[w.heap.size + 1]? = some (.cells #[.slice A0 n0 c0, .slice A1 n1 c1, .slice A2 n2 c2, .int .i64 b.next] 28 (0, 0)) := by
    rw [Below.heap_alloc _ _ _ (by simp; try omega), Below.heap_alloc _ _ _ (by simp; try omega)]
    have := heap_alloc_new (w.alloc (.cells #[.int .i64 s.K, .int .i64 s.M, .int .i64 s.size] 23)) (.cells #[.slice A0 n0 c0, .slice A1 n1 c1, .slice A2 n2 c2, .int .i64 b.next] 28)
    simpa only [World.size_alloc] using this
  have hr2 : ((((w.alloc (.cells #[.int .i64 s.K, .int .i64 s.M, .int .i64 s.size] 23)).alloc (.cells #[.slice A0 n0 c0, .slice A1 n1 c1, .slice A2 n2 c2, .int .i64 b.next] 28)).alloc (.cells #[.int .i64 c.stripe, .int .i64 c.index] 44)).alloc (.cells #[.int .i64 m] 3)).heap[w.heap.size + 1 + 1]? = some (.cells #[.int .i64 c.stripe, .int .i64 c.index] 44 (0, 0)) := by
    rw [Below.heap_alloc _ _ _ (by simp; try omega)]
    have := heap_alloc_new ((w.alloc (.cells #[.int .i64 s.K, .int .i64 s.M, .int .i64 s.size] 23)).alloc (.cells #[.slice A0 n0 c0, .slice A1 n1 c1, .slice A2 n2 c2, .int .i64 b.next] 28)) (.cells #[.int .i64 c.stripe, .int .i64 c.index] 44)
    simpa only [World.size_alloc] using this
  have hr3 : ((((w.alloc (.cells #[.int .i64 s.K, .int .i64 s.M, .int .i64 s.size] 23)).alloc (.cells #[.slice A0 n0 c0, .slice A1 n1 c1, .slice A2 n2 c2, .int .i64 b.next] 28)).alloc (.cells #[.int .i64 c.stripe, .int .i64 c.index] 44)).alloc (.cells #[.int .i64 m] 3)).heap[w.heap.size + 1 + 1 + 1]? = some (.cells #[.int .i64 m] 3 (0, 0)) := by
    have := heap_alloc_new (((w.alloc (.cells #[.int .i64 s.K, .int .i64 s.M, .int .i64 s.size] 23)).alloc (.cells #[.slice A0 n0 c0, .slice A1 n1 c1, .slice A2 n2 c2, .int .i64 b.next] 28)).alloc (.cells #[.int .i64 c.stripe, .int .i64 c.index] 44)) (.cells #[.int .i64 m] 3)
    simpa only [World.size_alloc] using this
  have hz : w.heap.size + 1 + 1 + 1 < ((((w.alloc (.cells #[.int .i64 s.K, .int .i64 s.M, .int .i64 s.size] 23)).alloc (.cells #[.slice A0 n0 c0, .slice A1 n1 c1, .slice A2 n2 c2, .int .i64 b.next] 28)).alloc (.cells #[.int .i64 c.stripe, .int .i64 c.index] 44)).alloc (.cells #[.int .i64 m] 3)).heap.size := by simp
  refine (callsIn_wide (n := 9)).1 ?_
  refine callsIn_of_wp_marks Try.func20 rfl trivial ?_ rfl
  simp only [Try.ntmps20, List.size_toArray, List.length_cons, List.length_nil, Nat.reduceAdd, Nat.reduceSub, Array.replicate_succ, Array.replicate_zero, List.push_toArray, List.append_toArray, List.cons_append, List.nil_append]
  gi_wp2_with fail
  refine wpIn_wide.2 (wp_scope_straight ((wpIn_wide (n := 9)).1 ?_))
  gi_wp2_with fail
  refine ⟨trivial, (callsIn_wide.2 (HM.out _ (by repeat' (first | (with_reducible exact Below.refl _ _) | (with_reducible refine Below.alloc ?_ ?_ _) | (with_reducible refine Below.drew ?_) | (with_reducible refine below_drewN ?_ _) | (with_reducible refine Below.setCell ?_ ?_ _) | (refine via ?_ (by with_reducible assumption) ?_) | (refine via ?_ (below_ext _ _) ?_) | go_size)))).mono ?_⟩
  rintro e w1 ⟨rfl, hb1⟩
  (obtain ⟨hc_w1, hf_w1⟩ := bcell hb1; have z_w1_0 : w.heap.size < w1.heap.size := (by have := hb1.size; first | omega | (simp at this; omega)); have z_w1_1 : w.heap.size + 1 < w1.heap.size := (by have := hb1.size; first | omega | (simp at this; omega)); have z_w1_2 : w.heap.size + 1 + 1 < w1.heap.size := (by have := hb1.size; first | omega | (simp at this; omega)); have z_w1_3 : w.heap.size + 1 + 1 + 1 < w1.heap.size := (by have := hb1.size; first | omega | (simp at this; omega)))
  cases q with
  | false =>
    have HE : Hid (R = ([], 1)) := Lib.hid (by rw [HR.out, if_neg (fun h => by cases h.1)])
    gi_wp2
    refine ⟨.tuple #[.slice none 0 0, .int .i64 1], by simp [results, Try.results20, go_sem, *]; done, ?_⟩
    rw [HE.out]
    exact HNIL.out _ (by repeat' (first | (with_reducible exact Below.refl _ _) | (with_reducible refine Below.alloc ?_ ?_ _) | (with_reducible refine Below.drew ?_) | (with_reducible refine below_drewN ?_ _) | (with_reducible refine Below.setCell ?_ ?_ _) | (refine via ?_ (by with_reducible assumption) ?_) | (refine via ?_ (below_ext _ _) ?_) | go_size)) 1
  | true =>
    by_cases hm0 : m < 0
    · have HE : Hid (R = ([], 1)) := Lib.hid (by rw [HR.out, if_neg (fun h => by omega)])
      gi_wp2
      refine ⟨.tuple #[.slice none 0 0, .int .i64 1], by simp [results, Try.results20, go_sem, *]; done, ?_⟩
      rw [HE.out]
      exact HNIL.out _ (by repeat' (first | (with_reducible exact Below.refl _ _) | (with_reducible refine Below.alloc ?_ ?_ _) | (with_reducible refine Below.drew ?_) | (with_reducible refine below_drewN ?_ _) | (with_reducible refine Below.setCell ?_ ?_ _) | (refine via ?_ (by with_reducible assumption) ?_) | (refine via ?_ (below_ext _ _) ?_) | go_size)) 1
    · by_cases hm1 : 2000 < m
      · have HE : Hid (R = ([], 1)) := Lib.hid (by rw [HR.out, if_neg (fun h => by omega)])
        gi_wp2
        refine ⟨.tuple #[.slice none 0 0, .int .i64 1], by simp [results, Try.results20, go_sem, *]; done, ?_⟩
        rw [HE.out]
        exact HNIL.out _ (by repeat' (first | (with_reducible exact Below.refl _ _) | (with_reducible refine Below.alloc ?_ ?_ _) | (with_reducible refine Below.drew ?_) | (with_reducible refine below_drewN ?_ _) | (with_reducible refine Below.setCell ?_ ?_ _) | (refine via ?_ (by with_reducible assumption) ?_) | (refine via ?_ (below_ext _ _) ?_) | go_size)) 1
      · have HR2 : Hid (R = if 0 < n0 then (piecesX s b.stripes c m.toNat, 0) else ([], 3)) := Lib.hid (by rw [HR.out, if_pos ⟨by trivial, by omega, by omega⟩])
        by_cases hnz : n0 = 0
        · have HE : Hid (R = ([], 3)) := Lib.hid (by rw [HR2.out, if_neg (by omega)])
          gi_wp2
          refine ⟨.tuple #[.slice none 0 0, .int .i64 3], by simp [results, Try.results20, go_sem, *]; done, ?_⟩
          rw [HE.out]
          exact HNIL.out _ (by repeat' (first | (with_reducible exact Below.refl _ _) | (with_reducible refine Below.alloc ?_ ?_ _) | (with_reducible refine Below.drew ?_) | (with_reducible refine below_drewN ?_ _) | (with_reducible refine Below.setCell ?_ ?_ _) | (refine via ?_ (by with_reducible assumption) ?_) | (refine via ?_ (below_ext _ _) ?_) | go_size)) 3
        · have hpos : 0 < n0 := by omega
          have HE : Hid (R = (piecesX s b.stripes c m.toNat, 0)) := Lib.hid (by rw [HR2.out, if_pos hpos])
          obtain ⟨⟨hsh, hso⟩, hid, hcc⟩ := HGOOD.out rfl
          have HSH := Lib.hid hsh
          have HSO := Lib.hid hso
          have HIDS := Lib.hid hid
          have HCC := Lib.hid hcc
          have hbW : Below w.heap.size w w1 := (by repeat' (first | (with_reducible exact Below.refl _ _) | (with_reducible refine Below.alloc ?_ ?_ _) | (with_reducible refine Below.drew ?_) | (with_reducible refine below_drewN ?_ _) | (with_reducible refine Below.setCell ?_ ?_ _) | (refine via ?_ (by with_reducible assumption) ?_) | (refine via ?_ (below_ext _ _) ?_) | go_size))
          have hr3' := (hb1.block _ (by simp)).trans hr3
          clear hsh hso hid hcc HGOOD HR HR2 hr0 hr1 hr2 HNIL hr3
          gi_wp2_with fail
          refine wpIn_label ?_
          gi_wp2_with fail
          refine ⟨trivial, (callsIn_wide.2 round_c).mono ?_⟩
          rintro e w4 ⟨rfl, rfl⟩
          obtain ⟨w2, hw2⟩ : ∃ w2, w2 = (w1.alloc (.cells #[.slice none 0 0] 33)) := ⟨_, rfl⟩
          have hs2 : w2.heap.size = w1.heap.size + 1 := by rw [hw2]; simp
          have hb2 : Below w1.heap.size w1 w2 := by rw [hw2]; exact (Below.refl _ _).alloc (Nat.le_refl _) _
          have q2 : w2.heap[w1.heap.size]? = some (.cells #[.slice none 0 0] 33 (0, 0)) := by rw [hw2]; exact heap_alloc_new _ _
          obtain ⟨wl, hwl⟩ : ∃ wl, wl = (((w2.alloc (.cells #[.int .i64 s.K, .int .i64 s.M, .int .i64 s.size] 23)).alloc (.cells #[.slice A0 n0 c0, .slice A1 n1 c1, .slice A2 n2 c2, .int .i64 b.next] 28)).alloc (.cells #[.int .i64 c.stripe, .int .i64 c.index] 44)) := ⟨_, rfl⟩
          have hbl : Below w2.heap.size w2 wl := by rw [hwl]; exact ((Below.refl _ _).alloc (Nat.le_refl _) _ |>.alloc (by simp) _ |>.alloc (by simp; omega) _)
          have qs : wl.heap[w2.heap.size]? = some (.cells #[.int .i64 s.K, .int .i64 s.M, .int .i64 s.size] 23 (0, 0)) := by
            rw [hwl, Below.heap_alloc _ _ _ (by simp; omega), Below.heap_alloc _ _ _ (by simp)]
            exact heap_alloc_new _ _
          have qb : wl.heap[w2.heap.size + 1]? = some (.cells #[.slice A0 n0 c0, .slice A1 n1 c1, .slice A2 n2 c2, .int .i64 b.next] 28 (0, 0)) := by
            rw [hwl, Below.heap_alloc _ _ _ (by simp)]
            have := heap_alloc_new (w2.alloc (.cells #[.int .i64 s.K, .int .i64 s.M, .int .i64 s.size] 23)) (.cells #[.slice A0 n0 c0, .slice A1 n1 c1, .slice A2 n2 c2, .int .i64 b.next] 28)
            simpa only [World.size_alloc] using this
          have qc : wl.heap[w2.heap.size + 1 + 1]? = some (.cells #[.int .i64 c.stripe, .int .i64 c.index] 44 (0, 0)) := by
            rw [hwl]
            have := heap_alloc_new ((w2.alloc (.cells #[.int .i64 s.K, .int .i64 s.M, .int .i64 s.size] 23)).alloc (.cells #[.slice A0 n0 c0, .slice A1 n1 c1, .slice A2 n2 c2, .int .i64 b.next] 28)) (.cells #[.int .i64 c.stripe, .int .i64 c.index] 44)
            simpa only [World.size_alloc] using this
          have hsz : w2.heap.size + 3 = wl.heap.size := by rw [hwl]; simp
          rw [hs2] at qs qb qc hsz
          have ql := (hbl.block _ (by omega)).trans q2
          have qn := (hbl.block _ (by omega)).trans ((hb2.block _ z_w1_3).trans hr3')
          have hbWl : Below w.heap.size w wl := hbW.trans ((hb2.trans (hbl.mono (by omega))).mono (by have := hbW.size; omega))
          have HSL := Lib.hid (HS.out wl hbWl)
          have hw1s : w.heap.size + 1 + 1 + 1 < w1.heap.size := z_w1_3
          simp only [World.size_alloc]
          rw [← hw2, ← hwl]
          clear hwl hbl hb1 hal hr3' hz hc_w1 hf_w1 z_w1_0 z_w1_1 z_w1_2 z_w1_3 hbW q2 hb2 hw2 hs2
          have HQ := Lib.hid (And.intro qs (And.intro qb qc)); clear qs qb qc
          have HFB : Hid (FB wl.heap.size w w1.heap.size (w.heap.size + 1 + 1 + 1) m [] wl) := Lib.hid ⟨⟨none, 0, ql, Silo.Own.nil_⟩, qn, hbWl, Nat.le_refl _⟩
          have HRB0 := Lib.hid (fun (V : World) (hV : Below wl.heap.size wl V) => (show rowBlk w1.heap.size V = none from rowBlk_of ((hV.block _ (by omega)).trans ql)))
          clear ql qn
          have HBWl := Lib.hid hbWl; clear hbWl
          gi_wp2
          refine rangeFunc_done (α := Cursor) (encs := fun x => #[.agg #[.int .i64 x.stripe, .int .i64 x.index]]) rfl (by decide) (gf := 125) (lb := #[.pointer (some ⟨w1.heap.size + 1, 0, none⟩), .pointer (some ⟨w1.heap.size + 1 + 1, 0, none⟩), .pointer (some ⟨w1.heap.size + 1 + 1 + 1, 0, none⟩)]) rfl trivial (enters_of Try.func125 rfl rfl) (fun _ => rfl)
            (StR 44 wl.heap.size (rowBlk w1.heap.size)) (KR wl.heap.size (fun k => k = w1.heap.size) (rowBlk w1.heap.size))
            (fun pre x _ => x = turnsC s b.stripes c (pre.length + 1)) (fun _ => n0 = 0)
            (fun pre V => (pre.length : Int) ≤ m ∧ pre = piecesX s b.stripes c pre.length ∧ FB wl.heap.size w w1.heap.size (w.heap.size + 1 + 1 + 1) m pre V)
            (fun cd _ V => cd = .exit 1 ∧ FB wl.heap.size w w1.heap.size (w.heap.size + 1 + 1 + 1) m (piecesX s b.stripes c m.toNat) V)
            ?hSt ?hKt ?hKb ?hI ?hIx ?hG ?hIS ?h0 ?hseq ?a1 ?AW ?Aft ?hAWI ?hAWG ?hAWK ?hAWB ?hAft ?hAft0 ?hassign ?hbody ?hdone ?hstop
          case a1 => exact fun x V => { tmps := #[.agg #[.int .i64 s.K, .int .i64 s.M, .int .i64 s.size], .agg #[.slice A0 n0 c0, .slice A1 n1 c1, .slice A2 n2 c2, .int .i64 b.next], .agg #[.int .i64 c.stripe, .int .i64 c.index], .int .i64 m, .pointer (some ⟨w.heap.size, 0, none⟩), .pointer (some ⟨w.heap.size + 1, 0, none⟩), .pointer (some ⟨w.heap.size + 1 + 1, 0, none⟩), .pointer (some ⟨w.heap.size + 1 + 1 + 1, 0, none⟩), .slice none 0 0, .int .i64 0, .pointer (some ⟨w1.heap.size, 0, none⟩), .pointer (some ⟨V.heap.size, 0, none⟩),
              .bool (decide (m < 0) || decide (2000 < m)), .agg #[.int .i64 s.K, .int .i64 s.M, .int .i64 s.size], .agg #[.slice A0 n0 c0, .slice A1 n1 c1, .slice A2 n2 c2, .int .i64 b.next], .agg #[.int .i64 c.stripe, .int .i64 c.index], .bool true, .bool false, .bool false, .int .i64 m, .bool (decide (m < 0)), .bool (decide (m < 0)), .bool (decide (m < 0)), .int .i64 m, .bool (decide (2000 < m)), .bool (decide (m < 0) || decide (2000 < m)), .bool false, .pointer (some ⟨w.heap.size + 1, 0, none⟩), .slice A0 n0 c0, .int .i64 (n0 : Int), .bool false,
              .agg #[.int .i64 s.K, .int .i64 s.M, .int .i64 s.size], .agg #[.slice A0 n0 c0, .slice A1 n1 c1, .slice A2 n2 c2, .int .i64 b.next], .agg #[.int .i64 c.stripe, .int .i64 c.index], .func (.func 125) #[] #[.pointer (some ⟨w1.heap.size + 1, 0, none⟩), .pointer (some ⟨w1.heap.size + 1 + 1, 0, none⟩), .pointer (some ⟨w1.heap.size + 1 + 1 + 1, 0, none⟩)], .agg #[.int .i64 x.stripe, .int .i64 x.index], undef, undef, undef, undef, undef, undef, undef, undef, undef], defers := [] }
          case AW => exact fun x V => V.alloc (.cells #[.int .i64 x.stripe, .int .i64 x.index] 44)
          case Aft => exact fun x V0 V => V.heap[V0.heap.size]? = some (.cells #[.int .i64 x.stripe, .int .i64 x.index] 44 (0, 0)) ∧ wl.heap.size ≤ V0.heap.size
          case hSt => exact fun A B h k o _ ho hc => h.keeps k o ho hc
          case hKt => exact fun h k => h.trans k
          case hKb => exact fun V l o o' hl ho hc => KR.put (fun V' l' o'' hl' => rowBlk_same (World.putObj_heap_other (by omega))) V l o o' hl ho hc
          case hI =>
            rintro pre V V' row ⟨h1, h2, h3⟩ hg hr
            refine ⟨h1, h2, h3.same (by omega) (by omega) hg.size (h3.bw.grown hg h3.bw.size (fun r e => by have := (hr r e).1; have := HBWl.out.size; omega)) (fun k hk => hg.block k (by have := h3.sz; omega) (fun e => by have := (hr k e.symm).1; omega)) (fun g hgr => hg.block g (h3.row g hgr).2 (fun e => ?_))⟩
            obtain ⟨_, o', ho', hc'⟩ := hr g e.symm
            obtain ⟨o, ho, hc⟩ := h3.cells g hgr
            rw [ho] at ho'; injection ho' with ho'; subst ho'; rw [hc] at hc'; cases hc'
          case hIx =>
            rintro cd pre V V' row ⟨h1, h3⟩ hg hr
            refine ⟨h1, h3.same (by omega) (by omega) hg.size (h3.bw.grown hg h3.bw.size (fun r e => by have := (hr r e).1; have := HBWl.out.size; omega)) (fun k hk => hg.block k (by have := h3.sz; omega) (fun e => by have := (hr k e.symm).1; omega)) (fun g hgr => hg.block g (h3.row g hgr).2 (fun e => ?_))⟩
            obtain ⟨_, o', ho', hc'⟩ := hr g e.symm
            obtain ⟨o, ho, hc⟩ := h3.cells g hgr
            rw [ho] at ho'; injection ho' with ho'; subst ho'; rw [hc] at hc'; cases hc'
          case hG => exact fun pre x V V' row h _ _ => h
          case hIS =>
            rintro pre A B ⟨h1, h2, h3⟩ st
            refine ⟨h1, h2, h3.same (by omega) (by omega) st.size (h3.bw.trans (st.below (by have := HBWl.out.size; omega) h3.bw.size)) (fun k hk => st.low hk (by have := h3.sz; omega)) (fun g hgr => ?_)⟩
            rcases st with st | ⟨g', _, hne, _, hsame, _⟩
            · exact st.block g (h3.row g hgr).2
            · exact hsame g (fun e => hne (e ▸ hgr))
          case h0 => exact ⟨by simp; omega, rfl, HFB.out⟩
          case hseq =>
            intro l J Jx V hbw hJS hJI hY hJ0
            refine round1_in (n := 8) (S := S) (X := fun k => k = w1.heap.size) (rb := rowBlk w1.heap.size) (β := wl.heap.size) (bs := w1.heap.size + 1) (bb := w1.heap.size + 1 + 1) (bc := w1.heap.size + 1 + 1 + 1) (N := m.toNat + 1) (s := s) (l := b.stripes) (nx := b.next) (c := c) l J Jx V HSH.out hn0 (fun i j h1 h2 => stripesOk_ids HSO.out i j h1 (by have := HL.out; omega)) HIDS.out HCC.out
              ⟨(hbw.block _ (by omega)).trans HQ.out.1, (hbw.block _ (by omega)).trans HQ.out.2.1⟩ ((hbw.block _ (by omega)).trans HQ.out.2.2) (HSL.out.all hbw)
              (fun k hk => ⟨by rcases hk with hk | hk | hk | hk <;> first | (have := HSW.out _ hk; have := HBWl.out.size; omega) | omega, fun h => by rcases hk with hk | hk | hk | hk <;> first | (have := HSW.out _ hk; omega) | omega⟩) (fun k hk => by omega) hbw.size
              (fun A B hA hb => rowBlk_same (hb.block _ (by omega))) (fun A B g hg hs _ => rowBlk_same (hs _ (by omega))) (HRB0.out V hbw)
              (fun pre A B hj hb => hJS pre A B hj (.inl hb)) (fun pre A B g hj h1 h2 h3 h4 h5 h6 => hJS pre A B hj (.inr ⟨g, h1, h2, h3, h4, h5, h6⟩))
              (fun pre A hj => by have := (hJI pre A hj).1; omega) (fun pre A hj h0 => hY pre _ A hj rfl) hJ0
          case hAWI =>
            rintro pre x V ⟨h1, h2, h3⟩
            exact ⟨h1, h2, h3.same (by omega) (by omega) (by simp) (h3.bw.alloc h3.bw.size _) (fun k hk => Below.heap_alloc _ _ _ (by have := h3.sz; omega)) (fun g hgr => Below.heap_alloc _ _ _ (h3.row g hgr).2)⟩
          case hAWG => exact fun pre x V h => h
          case hAWK =>
            intro x V hwl1
            exact ⟨by simp, .inl (rowBlk_same (Below.heap_alloc _ _ _ (by omega))), fun k hk _ => Below.heap_alloc _ _ _ (by omega), fun k cs T fr hc _ _ => Below.heap_alloc _ _ _ (Array.getElem?_eq_some_iff.1 hc).1⟩
          case hAWB => exact fun x V k o ho _ => (Below.heap_alloc _ _ _ (Array.getElem?_eq_some_iff.1 ho).1).trans ho
          case hAft =>
            rintro x V0 _ V V' row ⟨h1, h2⟩ hg hr
            refine ⟨(hg.block _ (Array.getElem?_eq_some_iff.1 h1).1 (fun e => ?_)).trans h1, h2⟩
            obtain ⟨_, o', ho', hc'⟩ := hr _ e.symm
            rw [h1] at ho'; injection ho' with ho'; subst ho'; cases hc'
          case hAft0 => exact fun x V0 h => ⟨heap_alloc_new _ _, h⟩
          case hassign =>
            intro l x V K hK
            gi_wp2
            exact hK
          case hbody =>
            rintro l pre x V0 V ⟨hle, hpe, hB⟩ hx ⟨hxr, hV0⟩
            have hokx : I64 x.stripe ∧ I64 x.index := by
              have := turnsC_ok (s := s) (l := b.stripes) (c := c) (by rw [HL.out]; exact hpos) (by have := shapeOk_K HSH.out; omega) HIDS.out HCC.out (pre.length + 1)
              rw [← hx] at this
              have hk := shapeOk_K HSH.out
              unfold I64
              omega
            have HB := Lib.hid hB
            obtain ⟨⟨A, k, rl, ho⟩, rn, hbw, hsv⟩ := hB
            have x0 := (cell_of_row _ _ 0 _ _ _ hxr).trans (show _ = some (.int .i64 x.stripe : Value) from rfl)
            have x1 := (cell_of_row _ _ 1 _ _ _ hxr).trans (show _ = some (.int .i64 x.index : Value) from rfl)
            have z6 := (cell_of_row _ _ 0 _ _ _ rl).trans (show _ = some (.slice A pre.length k : Value) from rfl)
            have z7 := (cell_of_row _ _ 0 _ _ _ rn).trans (show _ = some (.int .i64 m : Value) from rfl)
            have HRL := Lib.hid (And.intro rl hxr); clear rl hxr rn
            have HXD := Lib.hid hx; clear hx
            have HPE := Lib.hid hpe; clear hpe
            have HO := Lib.hid ho; clear ho
            have HBWV := Lib.hid hbw; clear hbw
            have hl1 : pre.length ≤ 2000 := by omega
            have hx0 : V0.heap.size < V.heap.size := (Array.getElem?_eq_some_iff.1 HRL.out.2).1
            by_cases hmm : (pre.length : Int) = m
            · have HFX : Hid (FB wl.heap.size w w1.heap.size (w.heap.size + 1 + 1 + 1) m (piecesX s b.stripes c m.toNat) V) := Lib.hid (by
                have h1 := HB.out
                rw [HPE.out] at h1
                rw [show m.toNat = pre.length by omega]
                exact h1)
              clear HB
              gi_wp2
              exact ⟨KeepsFrom.refl _ _, rfl, HFX.out⟩
            · have hk2 : cursorE.R (V.alloc (.cells #[.int .i64 x.stripe, .int .i64 x.index] 44)) (fun b => False ∧ some b ≠ ablk A) [.int .i64 x.stripe, .int .i64 x.index] x := ⟨rfl, hokx⟩
              gi_wp2_with (gi_at_builtin; refine wpListIn_append1 rfl (.tmp 40) (.tmp 42) 33 rfl i0 (.agg #[.int .i64 0, .int .i64 0]) 16 Try.underlying33 hi hz0 hz1 hz2 rfl (by decide) rfl (own_keep HO.out (by simp) (fun g hg => Below.heap_alloc _ _ _ (HO.out.lt g hg).2)) V.heap.size 44 1 [.int .i64 x.stripe, .int .i64 x.index] _ rfl (World.alloc_heap_new _ _) hk2 (by omega) (by omega) (by simp; omega) ?_)
              rintro A3 c3 W3 q1 q2 q3
              have hbl' : some w1.heap.size ≠ ablk A := fun e => by have := (HO.out.lt _ e.symm).1; omega
              have hsv' : V.heap.size + 1 ≤ W3.heap.size := by have := q2.size; simpa using this
              have HW3 := Lib.hid (fun (k' : Nat) (hk' : some k' ≠ ablk A) (hlt : k' < V.heap.size) => (q2.block k' (by simp; omega) hk').trans (Below.heap_alloc _ _ _ hlt))
              have r6' := (HW3.out w1.heap.size hbl' (by omega)).trans HRL.out.1
              have z6' := (cell_of_row _ _ 0 _ _ _ r6').trans (show _ = some (.slice A pre.length k : Value) from rfl)
              have f6' := frozen_of_row _ _ 0 _ _ r6'
              have HB3 := Lib.hid ((HBWV.out.alloc HBWV.out.size (.cells #[.int .i64 x.stripe, .int .i64 x.index] 44)).grown q2 (by have := HBWV.out.size; simp; omega) (fun r e => by have := (HO.out.lt r e).1; have := HBWl.out.size; omega))
              have HFIN := Lib.hid (show ∀ Vn, Vn = W3.setCell ⟨w1.heap.size, 0, none⟩ (.slice A3 (pre.length + 1) c3) →
                  KeepsFrom wl.heap.size V Vn ∧ KR wl.heap.size (fun k => k = w1.heap.size) (rowBlk w1.heap.size) V Vn ∧ (((pre ++ [x]).length : Int) ≤ m ∧ pre ++ [x] = piecesX s b.stripes c (pre ++ [x]).length ∧ FB wl.heap.size w w1.heap.size (w.heap.size + 1 + 1 + 1) m (pre ++ [x]) Vn) from by
                rintro Vn rfl
                have hset : ∀ k', k' ≠ w1.heap.size → some k' ≠ ablk A → k' < V.heap.size → (W3.setCell ⟨w1.heap.size, 0, none⟩ (.slice A3 (pre.length + 1) c3)).heap[k']? = V.heap[k']? := fun k' h1 h2 h3 => (Below.heap_setCell W3 ⟨w1.heap.size, 0, none⟩ _ _ h1).trans (HW3.out k' h2 h3)
                have hrow := row_set1 (v := .slice A3 (pre.length + 1) c3) r6'
                have hsz : V.heap.size ≤ (W3.setCell ⟨w1.heap.size, 0, none⟩ (.slice A3 (pre.length + 1) c3)).heap.size := by simp; omega
                refine ⟨⟨hsz, fun k' o hk ho hc => ?_⟩, ⟨hsz, ?_, fun k' hk hx => ?_, fun k' cs T fr hc hx hr => ?_⟩, ?_, ?_, ⟨⟨A3, c3, ?_, ?_⟩, ?_, ?_, ?_⟩⟩
                · refine (hset k' (by omega) (fun e => ?_) (Array.getElem?_eq_some_iff.1 ho).1).trans ho
                  obtain ⟨o', ho', hc'⟩ := HB.out.cells k' ((rowBlk_of HRL.out.1).trans e.symm)
                  rw [ho] at ho'; injection ho' with ho'; subst ho'; rw [hc] at hc'; cases hc'
                · rw [rowBlk_of hrow, rowBlk_of HRL.out.1]
                  rcases q3 with e | e
                  · exact .inl e
                  · exact .inr ⟨_, e, by simp⟩
                · exact hset k' hx (fun e => by have := (HO.out.lt k' e.symm).1; omega) (by omega)
                · exact hset k' hx (fun e => hr ((rowBlk_of HRL.out.1).trans e.symm)) (Array.getElem?_eq_some_iff.1 hc).1
                · simp; omega
                · rw [List.length_append, List.length_singleton, piecesX_succ, ← HXD.out]; exact congrArg (· ++ [x]) HPE.out
                · rw [List.length_append, List.length_singleton]; exact hrow
                · rw [List.length_append, List.length_singleton]
                  exact own_keep q1 (by simp) (fun g hg => Below.heap_setCell W3 ⟨w1.heap.size, 0, none⟩ _ _ (by have := (q1.lt g hg).1; show g ≠ w1.heap.size; omega))
                · exact (hset _ (by omega) (fun e => by have := (HO.out.lt _ e.symm).1; omega) (by omega)).trans HB.out.rn
                · exact HB3.out.setCell (p := ⟨w1.heap.size, 0, none⟩) (by show w.heap.size ≤ w1.heap.size; omega) _
                · omega)
              clear z6 z7 q1 q2 q3 hk2 x0 x1 r6'
              gi_wp2
              exact HFIN.out _ rfl
          case hdone => exact fun D pre V _ _ h _ => absurd h (by omega)
          case hstop =>
            rintro D cd pre V hD ⟨rfl, hB⟩ hK
            obtain ⟨⟨A, k, rl, ho⟩, rn, hbw, hsv⟩ := hB
            have z6 := (cell_of_row _ _ 0 _ _ _ rl).trans (show _ = some (.slice A (piecesX s b.stripes c m.toNat).length k : Value) from rfl)
            have HBV := Lib.hid hbw; clear hbw
            have HO := Lib.hid ho; clear ho
            clear rl rn
            gi_wp2
            refine ⟨by simp, .inl ⟨_, _, rfl, run_takeDeferred hK, ?_⟩⟩
            have hg := grownBy_putObj' V D (.deferred none)
            have hB2 := HBV.out.grown hg (by have := HBV.out.size; omega) (fun r e => by cases e; have := HBWl.out.size; omega)
            have hO2 := own_keep HO.out hg.size (fun g hgg => World.putObj_heap_other (by
              intro e; subst e
              obtain ⟨q, hq⟩ := Silo.Own.shape HO.out g hgg
              obtain ⟨cs, fr, hc⟩ := cells_of_shape hq
              rw [hc] at hK; injection hK with hK; cases hK))
            generalize V.putObj D (.deferred none) = W2 at *
            refine ⟨.tuple #[.slice A (piecesX s b.stripes c m.toNat).length k, .int .i64 0], by simp [results, Try.results20, go_sem]; done, ?_⟩
            rw [HE.out]
            exact ⟨A, k, rfl, (hO2.sl (tg := true)).mono (fun g hg _ => by rcases hg with hg | hg; (exact hg.elim); (have := HBWl.out.size; omega)), hB2⟩
end Go.Proofs.Ytjeecdoffoahkaa
