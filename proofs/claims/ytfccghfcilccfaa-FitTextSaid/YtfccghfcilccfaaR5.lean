/- fit.Lay: the slots of a text's stripes. -/
import Derived.Test.YtfccghfcilccfaaR4
namespace Go.Proofs.Ytfccghfcilccfaa
open Go.RowKit Go.Silo Go.Shelf
attribute [local go_sem] Oper.semAt_some

/-- A row of slots, and the block that it lies in. -/
def _root_.Go.Silo.rowE (T : TypeId) : Enc (List Slot × Nat) where
  sz := 1
  R w S vs p := ∃ A n c, vs = [.slice A n c] ∧ Sl true T slotE w (fun b => S b ∧ b = p.2) A n c p.1
  len h := by obtain ⟨A, n, c, rfl, _⟩ := h; rfl
  one h := by obtain ⟨A, n, c, rfl, _⟩ := h; simp [Value.oneCell']
  mono hS h := by obtain ⟨A, n, c, rfl, h⟩ := h; exact ⟨A, n, c, rfl, h.mono (fun b hb hlt => ⟨hS b hb.1 hlt, hb.2⟩)⟩
  frame hA hs h := by obtain ⟨A, n, c, rfl, h⟩ := h; exact ⟨A, n, c, rfl, h.frame (hA.mono (fun b hb _ => hb.1)) hs⟩
theorem _root_.Go.Silo.CKeeps.rowE {T : TypeId} {X : TypeId → Prop} (hT : X T) : (rowE T).CKeeps X := by
  rintro W W' S vs x hk ⟨A, n, c, rfl, h⟩
  exact ⟨A, n, c, rfl, h.ck CKeeps.flat hT hk⟩
theorem _root_.Go.Silo.getElem?_zip_some {α β : Type} : ∀ {l : List α} {m : List β} {k : Nat} {x : α × β}, (l.zip m)[k]? = some x → l[k]? = some x.1 ∧ m[k]? = some x.2
  | [], _, _, _, h => by simp at h
  | _ :: _, [], _, _, h => by simp at h
  | a :: l, b :: m, 0, x, h => by simp at h; subst h; exact ⟨rfl, rfl⟩
  | a :: l, b :: m, k + 1, x, h => by
    simp only [List.zip_cons_cons, List.getElem?_cons_succ] at h ⊢
    exact getElem?_zip_some h
/-- The rows alone. -/
theorem _root_.Go.Silo.Sl.rows {T T' : TypeId} {w : World} {S : Nat → Prop} {A : Option Addr} {n c : Nat} {l : List (List Slot)} {bs : List Nat} (h : Sl true T (rowE T') w S A n c (l.zip bs)) (hl : bs.length = l.length) : Sl true T (slE true T' slotE) w S A n c l := by
  refine h.imp rfl (by rw [List.length_zip]; omega) (fun k x y vs hx hy hR => ?_)
  obtain ⟨A', n', c', e, hs⟩ := hR
  obtain rfl : x.1 = y := by
    have := (getElem?_zip_some hx).1
    rw [hy] at this; injection this with this; exact this.symm
  exact ⟨A', n', c', e, hs.mono (fun b hb _ => hb.1)⟩
theorem _root_.Go.Silo.zip_snoc {α β : Type} {l : List α} {m : List β} {a : α} {b : β} (h : l.length = m.length) : (l ++ [a]).zip (m ++ [b]) = l.zip m ++ [(a, b)] := by
  rw [List.zip_append h]; rfl
def LayPost (S : Nat → Prop) (g : Nat) (A0 : Option Addr) (n0 c0 : Nat) (A1 : Option Addr) (n1 c1 : Nat) (w : World) (x : SlotsD) (k m : Nat) (e : Ending) (w' : World) : Prop :=
  ∃ A c x', e = .returned (.tuple #[.slice A (layR x k m).1.length c, .int .i64 (layR x k m).2]) ∧ (∃ bs : List Nat, bs.Nodup ∧ bs.length = (layR x k m).1.length ∧ Sl true 71 (rowE 104) w' (fun b => w.heap.size ≤ b) A (layR x k m).1.length c ((layR x k m).1.zip bs)) ∧
    XS S g A0 n0 c0 A1 n1 c1 x' w' ∧ ((layR x k m).2 = 0 → x' = turnsX x k m) ∧ Turns S 52 w w'

theorem Try.info_Ss : (Try.prog.info? 71).map (fun i => (i.zero, i.size, i.bytes)) = some (some (.slice none 0 0), 1, 24) := by kernel_rfl
theorem _root_.Go.Silo.row_set1 {w : World} {g : Nat} {a v : Value} {T : TypeId} {fr : Nat × Nat} (h : w.heap[g]? = some (.cells #[a] T fr)) : (w.setCell ⟨g, 0, none⟩ v).heap[g]? = some (.cells #[v] T fr) := by
  simp [World.setCell, Array.getElem?_modify, h]

/-- The boxes of Lay, behind so many rounds. -/
structure LB (S : Nat → Prop) (w : World) (b6 b7 b8 bs bp g : Nat) (s : Shape) (x : SlotsD) (k m j : Nat) (rs : List Nat) (W : World) : Prop where
  row6 : ∃ A c, W.heap[b6]? = some (.cells #[.slice A j c] 67 (0, 0)) ∧ Silo.Own 71 (rowE 104) W w.heap.size (fun b => w.heap.size ≤ b) A j c ((fitL x k j).zip rs)
  row7 : W.heap[b7]? = some (.cells #[.int .i64 0] 39 (0, 0))
  row8 : W.heap[b8]? = some (.cells #[.int .i64 (m : Int)] 3 (0, 0))
  rsh : W.heap[bs]? = some (.cells #[.int .i64 s.K, .int .i64 s.M, .int .i64 s.size] 23 (0, 0))
  rp : W.heap[bp]? = some (.cells #[.pointer (some ⟨g, 0, none⟩)] 165 (0, 0))
  turns : Turns S 52 w W
theorem LB.ck {S : Nat → Prop} {w W W' : World} {b6 b7 b8 bs bp g k m j : Nat} {rs : List Nat} {s : Shape} {x : SlotsD} {X : TypeId → Prop} (h : LB S w b6 b7 b8 bs bp g s x k m j rs W) (hk : CK X W W') (ht : Turns S 52 w W') (h1 : X 67) (h2 : X 71) (h3 : X 104) (h4 : X 39) (h5 : X 3) (h6 : X 23) (h7 : X 165) :
    LB S w b6 b7 b8 bs bp g s x k m j rs W' := by
  obtain ⟨⟨A, c, r, o⟩, r7, r8, rsh, rp, _⟩ := h
  exact ⟨⟨A, c, hk.row _ _ _ _ h1 r, Silo.Own.ck (CKeeps.rowE h3) h2 o hk⟩, hk.row _ _ _ _ h4 r7, hk.row _ _ _ _ h5 r8, hk.row _ _ _ _ h6 rsh, hk.row _ _ _ _ h7 rp, ht⟩

set_option maxRecDepth 100000 in
set_option maxHeartbeats 4000000 in
theorem Lay_c {w : World} {S : Nat → Prop} {g : Nat} {A0 A1 : Option Addr} {n0 c0 n1 c1 : Nat} {s : Shape} {x : SlotsD} {n : Int} (hs : shapeOk s = true) (h0 : 0 ≤ n) (h1 : n ≤ 100000) (hn0 : n0 ≤ 12) (hn1 : n1 = n0)
    (hX : XS S g A0 n0 c0 A1 n1 c1 x w) (hS : ∀ b, S b → b < w.heap.size) :
    Calls Try.prog 104 #[.agg #[.int .i64 s.K, .int .i64 s.M, .int .i64 s.size], .pointer (some ⟨g, 0, none⟩), .int .i64 n] w (LayPost S g A0 n0 c0 A1 n1 c1 w x (s.K + s.M).toNat (manyX s n)) := by
  have hsh := hs
  unfold shapeOk at hsh
  have hd := of_decide_eq_true hsh
  clear hsh
  obtain ⟨k1, k2, m1, m2, s1, s2⟩ := hd
  obtain ⟨k, hk⟩ : ∃ k : Nat, s.K + s.M = (k : Int) := ⟨(s.K + s.M).toNat, by omega⟩
  rw [hk, Int.toNat_natCast]
  have HKK := Lib.hid hk
  have hk1 : 1 ≤ k := by omega
  have hk14 : k ≤ 14 := by omega
  have HM := Lib.hid (fun (V : World) => Many_c (w := V) hs h0 h1)
  have HX := Lib.hid hX; clear hX
  have HS := Lib.hid hS; clear hS
  have hm2 : manyX s n ≤ 200000 := by
    unfold manyX
    have p1 : 1 ≤ s.K * s.size := by have := Int.mul_le_mul k1 s1 (by omega) (by omega); omega
    have : (n + s.K * s.size - 1) / (s.K * s.size) ≤ n := by
      refine Int.le_of_lt_add_one (Int.ediv_lt_of_lt_mul (by omega) ?_)
      have := Int.mul_le_mul_of_nonneg_left p1 h0
      have e : (n + 1) * (s.K * s.size) = n * (s.K * s.size) + s.K * s.size := by rw [Int.add_mul, Int.one_mul]
      omega
    omega
  generalize manyX s n = m at *
  clear s1 s2
  refine (callsIn_wide (n := 9)).1 ?_
  refine callsIn_of_wp_marks Try.func104 rfl trivial ?_ rfl
  simp only [Try.ntmps104, List.size_toArray, List.length_cons, List.length_nil, Nat.reduceAdd, Nat.reduceSub, Array.replicate_succ, Array.replicate_zero, List.push_toArray, List.append_toArray, List.cons_append, List.nil_append]
  gi_wp2_with fail
  refine ⟨trivial, (callsIn_wide.2 (HM.out _)).mono ?_⟩
  rintro e w1 ⟨rfl, hb1⟩
  (obtain ⟨hc_w1, hf_w1⟩ := bcell hb1; have z_w1_0 : w.heap.size < w1.heap.size := (by have := hb1.size; first | omega | (simp at this; omega)); have z_w1_1 : w.heap.size + 1 < w1.heap.size := (by have := hb1.size; first | omega | (simp at this; omega)); have z_w1_2 : w.heap.size + 1 + 1 < w1.heap.size := (by have := hb1.size; first | omega | (simp at this; omega)))
  have HRB := Lib.hid (fun (W : World) (hb : Below w.heap.size w W) (e : Int) (hr : layR x k m = ([], e)) (he : e = 0 → m = 0) => (show LayPost S g A0 n0 c0 A1 n1 c1 w x k m (.returned (.tuple #[.slice none 0 0, .int .i64 e])) W from by
    unfold LayPost
    rw [hr]
    refine ⟨none, 0, x, rfl, ⟨[], by simp, rfl, Sl.nil_ (by decide)⟩, HX.out.all hb, fun h => ?_, .of_below hb⟩
    rw [he h]; rfl))
  by_cases hm0 : m = 0
  · subst hm0
    gi_wp2
    refine ⟨.tuple #[.slice none 0 0, .int .i64 0], by simp [results, Try.results104, go_sem, *]; done, ?_⟩
    exact HRB.out _ (by repeat' (first | (with_reducible exact Below.refl _ _) | (with_reducible refine Below.alloc ?_ ?_ _) | (with_reducible refine Below.drew ?_) | (with_reducible refine below_drewN ?_ _) | (with_reducible refine Below.setCell ?_ ?_ _) | (refine via ?_ (by with_reducible assumption) ?_) | (refine via ?_ (below_ext _ _) ?_) | go_size)) 0 rfl (by simp)
  · by_cases hk12 : 12 < k
    · gi_wp2
      refine ⟨.tuple #[.slice none 0 0, .int .i64 1], by simp [results, Try.results104, go_sem, *]; done, ?_⟩
      exact HRB.out _ (by repeat' (first | (with_reducible exact Below.refl _ _) | (with_reducible refine Below.alloc ?_ ?_ _) | (with_reducible refine Below.drew ?_) | (with_reducible refine below_drewN ?_ _) | (with_reducible refine Below.setCell ?_ ?_ _) | (refine via ?_ (by with_reducible assumption) ?_) | (refine via ?_ (below_ext _ _) ?_) | go_size)) 1 (by unfold layR; rw [if_neg hm0, if_pos hk12]) (fun h => by cases h)
    · gi_wp2_with fail
      refine ⟨trivial, (callsIn_wide.2 stripes_c).mono ?_⟩
      rintro e w2 ⟨rfl, rfl⟩
      obtain ⟨wl, hwl⟩ : ∃ wl, wl = (((w1.alloc (.cells #[.int .i64 (m : Int)] 3)).alloc (.cells #[.int .i64 s.K, .int .i64 s.M, .int .i64 s.size] 23)).alloc (.cells #[.pointer (some ⟨g, 0, none⟩)] 165)) := ⟨_, rfl⟩
      have hbl : Below w.heap.size w wl := by rw [hwl]; exact (by repeat' (first | (with_reducible exact Below.refl _ _) | (with_reducible refine Below.alloc ?_ ?_ _) | (with_reducible refine Below.drew ?_) | (with_reducible refine below_drewN ?_ _) | (with_reducible refine Below.setCell ?_ ?_ _) | (refine via ?_ (by with_reducible assumption) ?_) | (refine via ?_ (below_ext _ _) ?_) | go_size))
      have e0 : (((w.alloc (.cells #[.int .i64 s.K, .int .i64 s.M, .int .i64 s.size] 23)).alloc (.cells #[.slice none 0 0] 67)).alloc (.cells #[.int .i64 0] 39)).heap.size = w.heap.size + 3 := by simp
      have hb1l : Below w1.heap.size w1 wl := by rw [hwl]; exact ((Below.refl _ _).alloc (Nat.le_refl _) _ |>.alloc (by simp) _ |>.alloc (by simp; omega) _)
      have q6 : wl.heap[w.heap.size + 1]? = some (.cells #[.slice none 0 0] 67 (0, 0)) := by
        rw [hb1l.block _ (by omega), hb1.block _ (by omega), Below.heap_alloc _ _ _ (by simp)]
        have := World.alloc_heap_new (w.alloc (.cells #[.int .i64 s.K, .int .i64 s.M, .int .i64 s.size] 23)) (.cells #[.slice none 0 0] 67)
        rwa [World.size_alloc] at this
      have q7 : wl.heap[w.heap.size + 1 + 1]? = some (.cells #[.int .i64 0] 39 (0, 0)) := by
        rw [hb1l.block _ (by omega), hb1.block _ (by omega)]
        have := World.alloc_heap_new ((w.alloc (.cells #[.int .i64 s.K, .int .i64 s.M, .int .i64 s.size] 23)).alloc (.cells #[.slice none 0 0] 67)) (.cells #[.int .i64 0] 39)
        rwa [World.size_alloc, World.size_alloc] at this
      have q8 : wl.heap[w1.heap.size]? = some (.cells #[.int .i64 (m : Int)] 3 (0, 0)) := by
        rw [hwl, Below.heap_alloc _ _ _ (by simp; omega), Below.heap_alloc _ _ _ (by simp)]
        exact World.alloc_heap_new _ _
      have qs : wl.heap[w1.heap.size + 1]? = some (.cells #[.int .i64 s.K, .int .i64 s.M, .int .i64 s.size] 23 (0, 0)) := by
        rw [hwl, Below.heap_alloc _ _ _ (by simp)]
        have := World.alloc_heap_new (w1.alloc (.cells #[.int .i64 (m : Int)] 3)) (.cells #[.int .i64 s.K, .int .i64 s.M, .int .i64 s.size] 23)
        rwa [World.size_alloc] at this
      have qp : wl.heap[w1.heap.size + 1 + 1]? = some (.cells #[.pointer (some ⟨g, 0, none⟩)] 165 (0, 0)) := by
        rw [hwl]
        have := World.alloc_heap_new ((w1.alloc (.cells #[.int .i64 (m : Int)] 3)).alloc (.cells #[.int .i64 s.K, .int .i64 s.M, .int .i64 s.size] 23)) (.cells #[.pointer (some ⟨g, 0, none⟩)] 165)
        rwa [World.size_alloc, World.size_alloc] at this
      have hsz : w1.heap.size + 3 = wl.heap.size := by rw [hwl]; simp
      have hw3 : w.heap.size + 3 ≤ w1.heap.size := by have := hb1.size; omega
      rw [← hwl]
      simp only [World.size_alloc]
      gi_wp2
      have HQ := Lib.hid (show LB S w (w.heap.size + 1) (w.heap.size + 1 + 1) w1.heap.size (w1.heap.size + 1) (w1.heap.size + 1 + 1) g s x k m 0 [] wl from ⟨⟨none, 0, q6, Silo.Own.nil_⟩, q7, q8, qs, qp, .of_below hbl⟩)
      have HXL := Lib.hid (HX.out.all hbl)
      have hgl : g < w.heap.size := (Array.getElem?_eq_some_iff.1 HX.out.row).1
      clear q6 q7 q8 qs qp hwl e0 hc_w1 hf_w1
      refine rangeFunc_state (α := Value × Value) (encs := fun v => #[v.1, v.2]) rfl (by decide) (gf := 161) (lb := #[.pointer (some ⟨w1.heap.size + 1 + 1, 0, none⟩), .pointer (some ⟨w1.heap.size + 1, 0, none⟩)]) rfl trivial (enters_of Try.func161 rfl rfl) (fun _ => rfl)
        (Turns S 52) (Keeps (fun b => S b ∨ b = g ∨ b = w1.heap.size + 1 ∨ b = w1.heap.size + 1 + 1))
        (fun pre v W => (∃ B, wl.heap.size ≤ B ∧ (∀ u ∈ pre, blkV u.1 < B) ∧ Handed x k B pre v W) ∧ XS S g A0 n0 c0 A1 n1 c1 (turnsX x k (pre.length + 1)) W)
        (fun pre W => pre.length < m ∧ firstErr x k pre.length = 0 ∧ (pre.map (fun u => blkV u.1)).Nodup ∧ LB S w (w.heap.size + 1) (w.heap.size + 1 + 1) w1.heap.size (w1.heap.size + 1) (w1.heap.size + 1 + 1) g s x k m pre.length (pre.map (fun u => blkV u.1)) W)
        (fun c pre W => XS S g A0 n0 c0 A1 n1 c1 (turnsX x k pre.length) W ∧ ((c = .ret ∧ layR x k m = ([], takeErr (turnsX x k (pre.length - 1)) k []) ∧ takeErr (turnsX x k (pre.length - 1)) k [] ≠ 0 ∧ W.heap[w.heap.size + 1]? = some (.cells #[.slice none 0 0] 67 (0, 0)) ∧ W.heap[w.heap.size + 1 + 1]? = some (.cells #[.int .i64 (takeErr (turnsX x k (pre.length - 1)) k [])] 39 (0, 0)) ∧ Turns S 52 w W) ∨
          (c = .exit 1 ∧ pre.length = m ∧ firstErr x k m = 0 ∧ (pre.map (fun u => blkV u.1)).Nodup ∧ LB S w (w.heap.size + 1) (w.heap.size + 1 + 1) w1.heap.size (w1.heap.size + 1) (w1.heap.size + 1 + 1) g s x k m m (pre.map (fun u => blkV u.1)) W)))
        ?hSt ?hKt ?hKb ?hI ?hIx ?hG ?hIS ?h0 ?hseq ?a1 ?hassign ?hbody ?hstop
      case hSt => exact fun A B h k' o hk' ho _ => (h.block k' (Array.getElem?_eq_some_iff.1 ho).1 (.inl (fun hs => by have := HS.out _ hs; have := hbl.size; omega))).trans ho
      case hKt => exact fun h1 h2 => ⟨h1.1.trans h1.2 h2.1, Nat.le_trans h1.2 h2.2⟩
      case hKb =>
        intro W l o hl
        refine ⟨Agree.grown (grownBy_putObj' W l o) (fun b hb e => ?_), (grownBy_putObj' W l o).size⟩
        injection e with e
        have := hbl.size
        rcases hb with hb | hb | hb | hb
        · have := HS.out _ hb; omega
        all_goals omega
      case hI =>
        intro pre W W' row h hg hr
        exact ⟨h.1, h.2.1, h.2.2.1, h.2.2.2.ck (X := fun _ => True) (CK.of_grown hg hr) (h.2.2.2.turns.grown hg (fun r e => by have := (hr r e).1; have := hbl.size; omega)) trivial trivial trivial trivial trivial trivial trivial⟩
      case hIx =>
        rintro c pre W W' row ⟨hx, h⟩ hg hr
        have hck := CK.of_grown (X := fun _ => True) hg hr
        refine ⟨hx.ck hck trivial trivial trivial trivial, ?_⟩
        rcases h with ⟨e, a, b, r6, r7, t⟩ | ⟨e, a, b, hn, h⟩
        · exact .inl ⟨e, a, b, hck.row _ _ _ _ trivial r6, hck.row _ _ _ _ trivial r7, t.grown hg (fun r e => by have := (hr r e).1; have := hbl.size; omega)⟩
        · exact .inr ⟨e, a, b, hn, h.ck hck (h.turns.grown hg (fun r e => by have := (hr r e).1; have := hbl.size; omega)) trivial trivial trivial trivial trivial trivial trivial⟩
      case hG =>
        rintro pre v W W' row ⟨⟨B, hB, hL, hH⟩, hx⟩ hg hr
        have hck := CK.of_grown (X := fun _ => True) hg hr
        exact ⟨⟨B, hB, hL, hH.ck hck trivial⟩, hx.ck hck trivial trivial trivial trivial⟩
      case hIS => exact fun pre A B h st => ⟨h.1, h.2.1, h.2.2.1, h.2.2.2.ck (CK.of_turns st) (h.2.2.2.turns.trans st) (by decide) (by decide) (by decide) (by decide) (by decide) (by decide) (by decide)⟩
      case h0 => exact ⟨Nat.pos_of_ne_zero hm0, rfl, by simp, HQ.out⟩
      case hseq =>
        intro l J Jx W hbw hJS hJI hY hJ0
        exact stripes1_in (n := 8) (S := S) (bs := w1.heap.size + 1) (bp := w1.heap.size + 1 + 1) (g := g) (k := k) (N := m) (x := x) l J Jx W hk1 HKK.out (by omega) hn0 hn1
          ((hbw.block _ (by omega)).trans HQ.out.rsh) ((hbw.block _ (by omega)).trans HQ.out.rp) (HXL.out.all hbw) hJS (fun pre A hj => (hJI pre A hj).1)
          (fun pre v A hj hB hx => hY pre v A hj ⟨by obtain ⟨B, h1, h2⟩ := hB; exact ⟨B, Nat.le_trans hbw.size h1, h2⟩, hx⟩) hJ0
      case a1 => exact fun v => { tmps := #[.agg #[.int .i64 s.K, .int .i64 s.M, .int .i64 s.size], .pointer (some ⟨g, 0, none⟩), .int .i64 n, .pointer (some ⟨w.heap.size, 0, none⟩), undef, undef, .pointer (some ⟨w.heap.size + 1, 0, none⟩), .pointer (some ⟨w.heap.size + 1 + 1, 0, none⟩), .pointer (some ⟨w1.heap.size, 0, none⟩), v.1, v.2,
          .agg #[.int .i64 s.K, .int .i64 s.M, .int .i64 s.size], .int .i64 n, .int .i64 m, .bool false, .int .i64 m, .bool false, .bool (decide (12 < (k : Int))), .pointer (some ⟨w.heap.size, 0, none⟩), .int .i64 s.K, .pointer (some ⟨w.heap.size, 1, none⟩), .int .i64 s.M, .int .i64 k, .bool (decide (12 < (k : Int))), .agg #[.int .i64 s.K, .int .i64 s.M, .int .i64 s.size], .pointer (some ⟨g, 0, none⟩),
          .func (.func 161) #[] #[.pointer (some ⟨w1.heap.size + 1 + 1, 0, none⟩), .pointer (some ⟨w1.heap.size + 1, 0, none⟩)], v.1, v.2, undef, undef, undef, undef, undef, undef, undef, undef, undef, undef, undef, undef], defers := [] }
      case hassign =>
        intro l v W K hK
        gi_wp2
        exact hK
      case hbody =>
        obtain ⟨i1, hi1, hz0, hz1, hz2⟩ := info_parts Try.info_Ss
        have HZ := Lib.hid (fun (b : Nat) (h1 : w.heap.size < b) (h2 : b < w1.heap.size) => (show ¬ (S b ∨ b = g ∨ b = w1.heap.size + 1 ∨ b = w1.heap.size + 1 + 1) from by
          rintro (h | h | h | h)
          · have := HS.out _ h; omega
          all_goals omega))
        rintro l pre ⟨v1, v2⟩ W ⟨hlt, hfe, hnd, hB⟩ ⟨⟨B, hBB, hLow, hH⟩, hXX⟩
        obtain ⟨⟨A, c, r6, ho⟩, r7, r8, rsh, rp, ht⟩ := hB
        have z6 := cell_of_row _ _ 0 _ _ _ r6
        have z7 := cell_of_row _ _ 0 _ _ _ r7
        have z8 := cell_of_row _ _ 0 _ _ _ r8
        have f6 := frozen_of_row _ _ 0 _ _ r6
        have f7 := frozen_of_row _ _ 0 _ _ r7
        have hws := ht.size
        rcases hH with ⟨hne, hv⟩ | ⟨he, A', c', hv, hl, ho'⟩
        · injection hv with hv1 hv2
          subst hv1; subst hv2
          obtain ⟨er, hER⟩ : ∃ er, er = takeErr (turnsX x k pre.length) k [] := ⟨_, rfl⟩
          rw [← hER]
          have hne' : er ≠ 0 := by rw [hER]; exact hne
          have HER := Lib.hid hER; clear hER hne
          have HT := Lib.hid ht; clear ht
          gi_wp2
          have hW := ((BK.refl wl.heap.size (fun b => S b ∨ b = g ∨ b = w1.heap.size + 1 ∨ b = w1.heap.size + 1 + 1) (fun T => T ≠ 67 ∧ T ≠ 39) W).setCell (p := ⟨w.heap.size + 1, 0, none⟩) (shape_of_cells r6) (by simp) (HZ.out (w.heap.size + 1) (by omega) (by omega)) (.slice none 0 0)).setCell (p := ⟨w.heap.size + 1 + 1, 0, none⟩) (by rw [shape_setCell]; exact shape_of_cells r7) (by simp) (HZ.out (w.heap.size + 1 + 1) (by omega) (by omega)) (.int .i64 er)
          refine ⟨hW.kf, ?_⟩
          simp only [List.length_append, List.length_cons, List.length_nil, Nat.zero_add, Nat.add_sub_cancel]
          refine ⟨hXX.ck hW.ck (by decide) (by decide) (by decide) (by decide), .inl ⟨by trivial, ?_, by rw [← HER.out]; exact hne', ?_, ?_, ?_⟩⟩
          · unfold layR
            rw [if_neg hm0, if_neg hk12, firstErr_at hfe (by rw [← HER.out]; exact hne') m hlt, if_neg (by rw [← HER.out]; exact hne')]
          · rw [Below.heap_setCell _ _ _ _ (by simp)]
            exact row_set1 r6
          · rw [← HER.out]
            exact row_set1 ((Below.heap_setCell _ _ _ _ (by simp)).trans r7)
          · exact (HT.out.setNew (by show w.heap.size ≤ w.heap.size + 1; omega) _).setNew (by show w.heap.size ≤ w.heap.size + 1 + 1; omega) _
        · injection hv with hv1 hv2
          subst hv1; subst hv2
          have HNX := Lib.hid (fun (W3 : World) (q2 : (W.alloc (.cells #[.slice A' k c'] 71)).grownBy W3 (ablk A)) => (show BK wl.heap.size (fun b => S b ∨ b = g ∨ b = w1.heap.size + 1 ∨ b = w1.heap.size + 1 + 1) (fun T => T ≠ 71 ∧ T ≠ 67) W W3 from
            ((BK.refl _ _ _ _).alloc _).grown q2 (fun r e => ⟨⟨71, by
              obtain ⟨q, hq⟩ := Silo.Own.shape (ho.all ((Below.refl _ _).alloc (Nat.le_refl _) _)) r e
              exact ⟨q, hq, by simp⟩⟩, by
              have hr := (ho.lt r e).1
              rintro (h | h | h | h)
              · have := HS.out _ h; omega
              · omega
              · exact Silo.Own.not_row ho rsh (by decide) (e.trans (by rw [h]))
              · exact Silo.Own.not_row ho rp (by decide) (e.trans (by rw [h]))⟩)))
          have hk2 : (rowE 104).R (W.alloc (.cells #[.slice A' k c'] 71)) (fun b => w.heap.size ≤ b ∧ some b ≠ ablk A) [.slice A' k c'] (takeL (turnsX x k pre.length) k [], blkV (.slice A' k c')) :=
            ⟨A', k, c', rfl, ((Silo.Own.slAt ho').mono (fun b hb _ => ⟨⟨by have := (ho'.lt b hb).1; have := hbl.size; omega, Silo.Own.avoids ho ho' (by decide) b hb⟩, by cases A' with
              | none => simp [ablk] at hb
              | some a => simp only [ablk, Option.map_some] at hb; injection hb with hb; exact hb.symm⟩)).all ((Below.refl _ _).alloc (Nat.le_refl _) _)⟩
          have hnd2 : ((pre ++ [(Value.slice A' k c', Value.int .i64 0)]).map (fun u => blkV u.1)).Nodup := by
            rw [List.map_append]
            refine List.nodup_append.2 ⟨hnd, by simp, ?_⟩
            intro a ha b hb e
            obtain ⟨u, hu, rfl⟩ := List.mem_map.1 ha
            have h1 := hLow u hu
            rw [e, show b = blkV (.slice A' k c') from by simpa using hb] at h1
            cases A' with
            | none => have := (Silo.Own.le ho').1; have h2 := ho'.sl (tg := true); obtain ⟨b', o', e', _⟩ := h2.2.2.2 (by omega); cases e'
            | some a => have h2 := (ho'.lt a.block rfl).1; have h1 : a.block < B := h1; omega
          have HND2 := Lib.hid hnd2; clear hnd2
          have hbl2 : (fitL x k pre.length).length = (pre.map (fun u => blkV u.1)).length := by rw [fitL_len, List.length_map]
          have HT := Lib.hid ht; clear ht
          have HO := Lib.hid ho; clear ho
          gi_wp2_with (gi_at_builtin; refine wpListIn_append1 rfl (.tmp 32) (.tmp 34) 67 rfl i1 (.slice none 0 0) 24 Try.underlying67 hi1 hz0 hz1 hz2 rfl (by decide) rfl (HO.out.all ((Below.refl _ _).alloc (Nat.le_refl _) _)) W.heap.size 71 1 [.slice A' k c'] _ rfl (World.alloc_heap_new _ _) hk2 (by omega) (by omega) (by simp; omega) ?_)
          rintro A3 c3 W3 q1 q2 q3
          have hbk := HNX.out W3 q2
          have hsz3 : W.heap.size + 1 ≤ W3.heap.size := by have := q2.size; simpa using this
          have l6 := (Array.getElem?_eq_some_iff.1 r6).1
          have r6' : W3.heap[w.heap.size + 1]? = some (.cells #[.slice A pre.length c] 67 (0, 0)) := (q2.block _ (by simp; omega) (fun e => Silo.Own.not_row HO.out r6 (by decide) e.symm)).trans ((Below.heap_alloc _ _ _ l6).trans r6)
          have r8' := hbk.ck.row _ _ _ _ (by decide) r8
          have z6' := cell_of_row _ _ 0 _ _ _ r6'
          have z8' := cell_of_row _ _ 0 _ _ _ r8'
          have f6' := frozen_of_row _ _ 0 _ _ r6'
          have HT3 := Lib.hid ((HT.out.alloc (.cells #[.slice A' k c'] 71)).grown q2 (fun r e => (HO.out.lt r e).1))
          have HRR := Lib.hid (And.intro r7 (And.intro rsh rp))
          clear z6 z7 z8 f6 f7 hk2 r7 rsh rp
          have HFIN := Lib.hid (fun (v : Value × Value) => (show ∀ Wn, Wn = W3.setCell ⟨w.heap.size + 1, 0, none⟩ (.slice A3 (pre.length + 1) c3) →
              KeepsFrom wl.heap.size W Wn ∧ Keeps (fun b => S b ∨ b = g ∨ b = w1.heap.size + 1 ∨ b = w1.heap.size + 1 + 1) W Wn ∧ XS S g A0 n0 c0 A1 n1 c1 (turnsX x k (pre ++ [v]).length) Wn ∧ firstErr x k (pre ++ [v]).length = 0 ∧
              LB S w (w.heap.size + 1) (w.heap.size + 1 + 1) w1.heap.size (w1.heap.size + 1) (w1.heap.size + 1 + 1) g s x k m (pre ++ [v]).length ((pre ++ [(Value.slice A' k c', Value.int .i64 0)]).map (fun u => blkV u.1)) Wn from by
            rintro Wn rfl
            have hW := hbk.setCell (p := ⟨w.heap.size + 1, 0, none⟩) (shape_of_cells r6') (by simp) (HZ.out (w.heap.size + 1) (by omega) (by omega)) (.slice A3 (pre.length + 1) c3)
            simp only [List.length_append, List.length_cons, List.length_nil, Nat.zero_add]
            refine ⟨hW.kf, hW.kp, hXX.ck hW.ck (by decide) (by decide) (by decide) (by decide), firstErr_succ hfe he, ⟨⟨A3, c3, row_set1 r6', ?_⟩, hW.ck.row _ _ _ _ (by decide) HRR.out.1, hW.ck.row _ _ _ _ (by decide) r8, hW.ck.row _ _ _ _ (by decide) HRR.out.2.1, hW.ck.row _ _ _ _ (by decide) HRR.out.2.2, HT3.out.setNew (by show w.heap.size ≤ w.heap.size + 1; omega) _⟩⟩
            rw [fitL_succ, List.map_append, show List.map (fun u : Value × Value => blkV u.1) [(Value.slice A' k c', Value.int .i64 0)] = [blkV (.slice A' k c')] from rfl, zip_snoc hbl2]
            exact Silo.Own.ck (X := fun T => T ≠ 67) (CKeeps.rowE (by decide)) (by decide) q1 (CK.setCell (shape_of_cells r6') (by simp) _)))
          by_cases hm : pre.length + 1 = m
          · gi_wp2
            obtain ⟨h1, h2, h3, h4, h5⟩ := HFIN.out (.slice A' k c', .int .i64 0) (W3.setCell ⟨w.heap.size + 1, 0, none⟩ (.slice A3 m c3)) (by rw [hm])
            have hl : (pre ++ [(Value.slice A' k c', Value.int .i64 0)]).length = m := by simpa using hm
            rw [hl] at h4 h5
            exact ⟨h1, h3, .inr ⟨rfl, hl, h4, HND2.out, h5⟩⟩
          · gi_wp2
            obtain ⟨h1, h2, h3, h4, h5⟩ := HFIN.out (.slice A' k c', .int .i64 0) _ rfl
            exact ⟨h1, h2, by simp; omega, h4, HND2.out, h5⟩
      case hstop =>
        rintro D c pre W hD ⟨hXX, h⟩ hK
        rcases h with ⟨rfl, hr, hne, r6, r7, ht⟩ | ⟨rfl, hpm, hfe, hnd, hB⟩
        · have hLR := Lib.hid hr; clear hr
          generalize takeErr (turnsX x k (pre.length - 1)) k [] = er at *
          have HNE := Lib.hid hne; clear hne
          gi_wp2
          refine ⟨by simp, .inl ⟨_, _, rfl, run_takeDeferred hK, ?_⟩⟩
          have hg := grownBy_putObj' W D (.deferred none)
          have hr : ∀ r, some D = some r → 0 ≤ r ∧ ∃ o : Obj, W.heap[r]? = some o ∧ o.isCells = false := fun r e => by cases e; exact ⟨Nat.zero_le _, _, hK, rfl⟩
          have hck := CK.of_grown (X := fun _ => True) hg hr
          have z6 := cell_of_row _ _ 0 _ _ _ (hck.row _ _ _ _ trivial r6)
          have z7 := cell_of_row _ _ 0 _ _ _ (hck.row _ _ _ _ trivial r7)
          have ht' := ht.grown hg (fun r e => by cases e; have := hbl.size; omega)
          have hX' := hXX.ck hck trivial trivial trivial trivial
          generalize W.putObj D (.deferred none) = W' at *
          refine ⟨.tuple #[.slice none 0 0, .int .i64 er], by simp [results, Try.results104, go_sem, z6, z7]; done, ?_⟩
          unfold LayPost
          rw [hLR.out]
          exact ⟨none, 0, _, rfl, ⟨[], by simp, rfl, Sl.nil_ (by decide)⟩, hX', fun h => absurd h HNE.out, ht'⟩
        · obtain ⟨⟨A, c, r6, ho⟩, r7, r8, rsh, rp, ht⟩ := hB
          have HO := Lib.hid ho; clear ho
          have z6 := cell_of_row _ _ 0 _ _ _ r6
          have z7 := cell_of_row _ _ 0 _ _ _ r7
          have f6 := frozen_of_row _ _ 0 _ _ r6
          have f7 := frozen_of_row _ _ 0 _ _ r7
          have HXX := Lib.hid hXX; clear hXX
          have HT := Lib.hid ht; clear ht
          have HFE := Lib.hid hfe; clear hfe
          have HBS := Lib.hid (show (pre.map (fun u : Value × Value => blkV u.1)).Nodup ∧ (pre.map (fun u : Value × Value => blkV u.1)).length = m from ⟨hnd, by rw [List.length_map]; exact hpm⟩); clear hnd
          generalize pre.map (fun u : Value × Value => blkV u.1) = rs at *
          have HPM := Lib.hid hpm; clear hpm
          gi_wp2
          have r6n : ((W.setCell ⟨w.heap.size + 1, 0, none⟩ (.slice A m c)).setCell ⟨w.heap.size + 1 + 1, 0, none⟩ (.int .i64 0)).heap[w.heap.size + 1]? = some (.cells #[.slice A m c] 67 (0, 0)) := (Below.heap_setCell _ _ _ _ (by simp)).trans (row_set1 r6)
          have r7n : ((W.setCell ⟨w.heap.size + 1, 0, none⟩ (.slice A m c)).setCell ⟨w.heap.size + 1 + 1, 0, none⟩ (.int .i64 0)).heap[w.heap.size + 1 + 1]? = some (.cells #[.int .i64 0] 39 (0, 0)) := row_set1 ((Below.heap_setCell _ _ _ _ (by simp)).trans r7)
          have cW : CK (fun T => T ≠ 67 ∧ T ≠ 39) W ((W.setCell ⟨w.heap.size + 1, 0, none⟩ (.slice A m c)).setCell ⟨w.heap.size + 1 + 1, 0, none⟩ (.int .i64 0)) := (CK.setCell (p := ⟨w.heap.size + 1, 0, none⟩) (shape_of_cells r6) (by simp) _).trans (CK.setCell (p := ⟨w.heap.size + 1 + 1, 0, none⟩) (by rw [shape_setCell]; exact shape_of_cells r7) (by simp) _)
          have hX' := HXX.out.ck cW (by decide) (by decide) (by decide) (by decide)
          have ho' := Silo.Own.ck (CKeeps.rowE (by decide)) (by decide) HO.out cW
          have ht' := (HT.out.setNew (p := ⟨w.heap.size + 1, 0, none⟩) (by show w.heap.size ≤ w.heap.size + 1; omega) (.slice A m c)).setNew (p := ⟨w.heap.size + 1 + 1, 0, none⟩) (by show w.heap.size ≤ w.heap.size + 1 + 1; omega) (.int .i64 0)
          have hK' : ((W.setCell ⟨w.heap.size + 1, 0, none⟩ (.slice A m c)).setCell ⟨w.heap.size + 1 + 1, 0, none⟩ (.int .i64 0)).heap[D]? = some (.deferred (some [])) := (Below.heap_setCell _ _ _ _ (by simp; omega)).trans ((Below.heap_setCell _ _ _ _ (by simp; omega)).trans hK)
          clear cW z6 z7 f6 f7 r6 r7 r8 rsh rp hK
          generalize ((W.setCell ⟨w.heap.size + 1, 0, none⟩ (.slice A m c)).setCell ⟨w.heap.size + 1 + 1, 0, none⟩ (.int .i64 0)) = V at *
          refine ⟨by simp, .inl ⟨_, _, rfl, run_takeDeferred hK', ?_⟩⟩
          have hg := grownBy_putObj' V D (.deferred none)
          have hr : ∀ r, some D = some r → 0 ≤ r ∧ ∃ o : Obj, V.heap[r]? = some o ∧ o.isCells = false := fun r e => by cases e; exact ⟨Nat.zero_le _, _, hK', rfl⟩
          have hck := CK.of_grown (X := fun _ => True) hg hr
          have z6 := cell_of_row _ _ 0 _ _ _ (hck.row _ _ _ _ trivial r6n)
          have z7 := cell_of_row _ _ 0 _ _ _ (hck.row _ _ _ _ trivial r7n)
          have ht2 := ht'.grown hg (fun r e => by cases e; have := hbl.size; omega)
          have hX2 := hX'.ck hck trivial trivial trivial trivial
          have ho2 := Silo.Own.ck (CKeeps.rowE trivial) trivial ho' hck
          generalize V.putObj D (.deferred none) = W' at *
          refine ⟨.tuple #[.slice A m c, .int .i64 0], by simp [results, Try.results104, go_sem, z6, z7]; done, ?_⟩
          have hlr : layR x k m = (fitL x k m, 0) := by unfold layR; rw [if_neg hm0, if_neg hk12, if_pos HFE.out]
          unfold LayPost
          rw [hlr]
          rw [HPM.out] at hX2
          exact ⟨A, c, _, by rw [fitL_len], ⟨rs, HBS.out.1, by rw [fitL_len]; exact HBS.out.2, by rw [fitL_len]; exact (ho2.sl (tg := true)).mono (fun b hb _ => hb.elim id id)⟩, hX2, fun _ => rfl, ht2⟩
end Go.Proofs.Ytfccghfcilccfaa
