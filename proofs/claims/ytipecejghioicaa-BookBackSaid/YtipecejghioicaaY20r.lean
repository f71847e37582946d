/- book.Lines, book.Check, silolaw16.num, silolaw13.Heavy of nothing. Printed by gen_y20.py. -/
import Derived.Test.YtipecejghioicaaY19r
import Derived.Test.YtipecejghioicaaY9r
import Derived.Test.YtipecejghioicaaN9r
import Derived.Deep.Light
namespace Go.Proofs.Ytipecejghioicaa
open Go.RowKit Go.Silo
theorem num16_c {w : World} {e : Int} : Calls Try.prog 5 #[.int .i64 e] w (RetV (.int .i64 e) w) := by
  go_enter Try.func5, Try.ntmps5
  go_wp2
  go_ret
  exact ⟨rfl, (by repeat' (first | (with_reducible exact Below.refl _ _) | (with_reducible refine Below.alloc ?_ ?_ _) | (with_reducible refine Below.drew ?_) | (with_reducible refine below_drewN ?_ _) | (with_reducible refine Below.setCell ?_ ?_ _) | (refine via ?_ (by with_reducible assumption) ?_) | (refine via ?_ (below_ext _ _) ?_) | go_size))⟩
def checkB (s : Shape) (b : Book) : Int := if bookOk s b = true then 0 else 1
set_option maxRecDepth 100000 in
set_option maxHeartbeats 4000000 in
theorem Check16_c {tg tg0 tg1 tg2 : Bool} {S : Nat → Prop} {w : World} {A0 A1 A2 : Option Addr} {n0 c0 n1 c1 n2 c2 : Nat} {s : Shape} {b : Book} (hsi : I64 s.K ∧ I64 s.M ∧ I64 s.size) (hf : Few b) (h : BookR w S tg tg0 tg1 tg2 A0 n0 c0 A1 n1 c1 A2 n2 c2 b) :
    Calls Try.prog 6 #[.agg #[.int .i64 s.K, .int .i64 s.M, .int .i64 s.size], .agg #[.slice A0 n0 c0, .slice A1 n1 c1, .slice A2 n2 c2, .int .i64 b.next]] w (RetV (.int .i64 (checkB s b)) w) := by
  have HM := Lib.hid (fun W (hW : Below w.heap.size w W) => May_c (w := W) hsi hf (h.all hW))
  clear h hf hsi
  have hal : Below w.heap.size w ((w.alloc (.cells #[.int .i64 s.K, .int .i64 s.M, .int .i64 s.size] 23)).alloc (.cells #[.slice A0 n0 c0, .slice A1 n1 c1, .slice A2 n2 c2, .int .i64 b.next] 28)) := (by repeat' (first | (with_reducible exact Below.refl _ _) | (with_reducible refine Below.alloc ?_ ?_ _) | (with_reducible refine Below.drew ?_) | (with_reducible refine below_drewN ?_ _) | (with_reducible refine Below.setCell ?_ ?_ _) | (refine via ?_ (by with_reducible assumption) ?_) | (refine via ?_ (below_ext _ _) ?_) | go_size))
  have hr0 : ((w.alloc (.cells #[.int .i64 s.K, .int .i64 s.M, .int .i64 s.size] 23)).alloc (.cells #[.slice A0 n0 c0, .slice A1 n1 c1, .slice A2 n2 c2, .int .i64 b.next] 28)).heap[w.heap.size]? = some (.cells #[.int .i64 s.K, .int .i64 s.M, .int .i64 s.size] 23 (0, 0)) := by
    rw [Below.heap_alloc _ _ _ (by simp; try omega)]
    have := heap_alloc_new w (.cells #[.int .i64 s.K, .int .i64 s.M, .int .i64 s.size] 23)
    simpa only [World.size_alloc] using this
  have hr1 : ((w.alloc (.cells #[.int .i64 s.K, .int .i64 s.M, .int .i64 s.size] 23)).alloc (.cells #[.slice A0 n0 c0, .slice A1 n1 c1, .slice A2 n2 c2, .int .i64 b.next] 28)).heap[w.heap.size + 1]? = some (.cells #[.slice A0 n0 c0, .slice A1 n1 c1, .slice A2 n2 c2, .int .i64 b.next] 28 (0, 0)) := by
    have := heap_alloc_new (w.alloc (.cells #[.int .i64 s.K, .int .i64 s.M, .int .i64 s.size] 23)) (.cells #[.slice A0 n0 c0, .slice A1 n1 c1, .slice A2 n2 c2, .int .i64 b.next] 28)
    simpa only [World.size_alloc] using this
  have hz : w.heap.size + 1 < ((w.alloc (.cells #[.int .i64 s.K, .int .i64 s.M, .int .i64 s.size] 23)).alloc (.cells #[.slice A0 n0 c0, .slice A1 n1 c1, .slice A2 n2 c2, .int .i64 b.next] 28)).heap.size := by simp
  go_enter Try.func6, Try.ntmps6
  go_upto_region 1 with (fail)
  generalize ((w.alloc (.cells #[.int .i64 s.K, .int .i64 s.M, .int .i64 s.size] 23)).alloc (.cells #[.slice A0 n0 c0, .slice A1 n1 c1, .slice A2 n2 c2, .int .i64 b.next] 28)) = W0 at *
  have HAL := Lib.hid (fun V (hV : Below W0.heap.size W0 V) => hal.trans (hV.mono hal.size)); clear hal
  have ROW := Lib.hid (fun V (hV : Below W0.heap.size W0 V) => (show V.heap[w.heap.size]? = some (.cells #[.int .i64 s.K, .int .i64 s.M, .int .i64 s.size] 23 (0, 0)) ∧ V.heap[w.heap.size + 1]? = some (.cells #[.slice A0 n0 c0, .slice A1 n1 c1, .slice A2 n2 c2, .int .i64 b.next] 28 (0, 0)) from ⟨(hV.block _ (by omega)).trans hr0, (hV.block _ (by omega)).trans hr1⟩))
  clear hr0 hr1
  obtain ⟨r0, r1⟩ := ROW.out W0 (Below.refl _ _)
  have b00 := (cell_of_row _ _ 0 _ _ _ r0).trans (show _ = some (.int .i64 s.K : Value) from rfl)
  have b01 := (cell_of_row _ _ 1 _ _ _ r0).trans (show _ = some (.int .i64 s.M : Value) from rfl)
  have b02 := (cell_of_row _ _ 2 _ _ _ r0).trans (show _ = some (.int .i64 s.size : Value) from rfl)
  have b10 := (cell_of_row _ _ 0 _ _ _ r1).trans (show _ = some (.slice _ n0 c0 : Value) from rfl)
  have b11 := (cell_of_row _ _ 1 _ _ _ r1).trans (show _ = some (.slice _ n1 c1 : Value) from rfl)
  have b12 := (cell_of_row _ _ 2 _ _ _ r1).trans (show _ = some (.slice _ n2 c2 : Value) from rfl)
  have b13 := (cell_of_row _ _ 3 _ _ _ r1).trans (show _ = some (.int .i64 b.next : Value) from rfl)
  clear r0 r1
  go_wp2_with fail
  refine (HM.out _ (HAL.out _ (Below.refl _ _))).mono ?_
  clear b00 b01 b02 b10 b11 b12 b13
  rintro e w1 ⟨rfl, hb1⟩
  have HB1 := Lib.hid hb1; clear hb1
  obtain ⟨q, hq⟩ : ∃ q, q = bookOk s b := ⟨_, rfl⟩
  rw [← hq]
  have HQ := Lib.hid hq.symm; clear hq
  cases q with
  | true =>
    have HE : Hid (checkB s b = 0) := Lib.hid (by unfold checkB; rw [HQ.out]; rfl)
    go_wp2
    go_ret
    exact ⟨by rw [HE.out]; rfl, HAL.out _ HB1.out⟩
  | false =>
    have HE : Hid (checkB s b = 1) := Lib.hid (by unfold checkB; rw [HQ.out]; rfl)
    go_wp2
    go_ret
    exact ⟨by rw [HE.out]; rfl, HAL.out _ HB1.out⟩
/-- The records that make a book, or the error. -/
def linesR (s : Shape) (b : Book) : List Record × Int := if bookOk s b = true then (linesB b, 0) else ([], 1)
def RetLines (r : List Record × Int) (w : World) (e : Ending) (w' : World) : Prop :=
  ∃ A n c, e = .returned (.tuple #[.slice A n c, .int .i64 r.2]) ∧ Sl true 54 (recordE true) w' (fun k => w.heap.size ≤ k) A n c r.1 ∧ Below w.heap.size w w'
theorem bookOk_few {s : Shape} {b : Book} (h : bookOk s b = true) : b.things.length ≤ 60 ∧ b.tags.length ≤ 40 := by
  unfold bookOk at h
  simp only [Bool.and_eq_true, decide_eq_true_eq] at h
  obtain ⟨_, _, _, hth, htg⟩ := h
  unfold thingsOk at hth
  unfold tagsOk at htg
  simp only [Bool.and_eq_true, decide_eq_true_eq] at hth htg
  exact ⟨hth.2.2, htg.2⟩
theorem book_ids {s : Shape} {b : Book} (h : bookOk s b = true) : ∀ j, j < b.stripes.length → 0 ≤ (b.stripes.getD j default).id ∧ (b.stripes.getD j default).id ≤ 1073741824 := fun j hj => by
  have h1 := stripesOk_each (book_parts h).2.2.1 j hj
  have h2 := stripeOk_len h1.1
  exact ⟨h2.2.2.2.1, h2.2.2.2.2.1⟩
set_option maxRecDepth 100000 in
set_option maxHeartbeats 4000000 in
theorem Lines_c {tg tg0 tg1 tg2 : Bool} {S : Nat → Prop} {w : World} {A0 A1 A2 : Option Addr} {n0 c0 n1 c1 n2 c2 : Nat} {s : Shape} {b : Book} (hsi : I64 s.K ∧ I64 s.M ∧ I64 s.size) (hf : Few b) (h : BookR w S tg tg0 tg1 tg2 A0 n0 c0 A1 n1 c1 A2 n2 c2 b) :
    Calls Try.prog 7 #[.agg #[.int .i64 s.K, .int .i64 s.M, .int .i64 s.size], .agg #[.slice A0 n0 c0, .slice A1 n1 c1, .slice A2 n2 c2, .int .i64 b.next]] w (RetLines (linesR s b) w) := by
  have HM := Lib.hid (fun W (hW : Below w.heap.size w W) => May_c (w := W) hsi hf (h.all hW))
  have HA := Lib.hid (fun W (hW : Below w.heap.size w W) (hq : bookOk s b = true) => bookAll_c (w := W) (h.all hW) ⟨by have := h.st.len; have := hf.st; omega, by have := h.th.len; have := (bookOk_few hq).1; omega, by have := h.ta.len; have := (bookOk_few hq).2; omega⟩ hf.places hf.lists (book_ids hq) (book_parts hq).2.1)
  clear h hf hsi
  have hal : Below w.heap.size w ((w.alloc (.cells #[.int .i64 s.K, .int .i64 s.M, .int .i64 s.size] 23)).alloc (.cells #[.slice A0 n0 c0, .slice A1 n1 c1, .slice A2 n2 c2, .int .i64 b.next] 28)) := (by repeat' (first | (with_reducible exact Below.refl _ _) | (with_reducible refine Below.alloc ?_ ?_ _) | (with_reducible refine Below.drew ?_) | (with_reducible refine below_drewN ?_ _) | (with_reducible refine Below.setCell ?_ ?_ _) | (refine via ?_ (by with_reducible assumption) ?_) | (refine via ?_ (below_ext _ _) ?_) | go_size))
  have hr0 : ((w.alloc (.cells #[.int .i64 s.K, .int .i64 s.M, .int .i64 s.size] 23)).alloc (.cells #[.slice A0 n0 c0, .slice A1 n1 c1, .slice A2 n2 c2, .int .i64 b.next] 28)).heap[w.heap.size]? = some (.cells #[.int .i64 s.K, .int .i64 s.M, .int .i64 s.size] 23 (0, 0)) := by
    rw [Below.heap_alloc _ _ _ (by simp; try omega)]
    have := heap_alloc_new w (.cells #[.int .i64 s.K, .int .i64 s.M, .int .i64 s.size] 23)
    simpa only [World.size_alloc] using this
  have hr1 : ((w.alloc (.cells #[.int .i64 s.K, .int .i64 s.M, .int .i64 s.size] 23)).alloc (.cells #[.slice A0 n0 c0, .slice A1 n1 c1, .slice A2 n2 c2, .int .i64 b.next] 28)).heap[w.heap.size + 1]? = some (.cells #[.slice A0 n0 c0, .slice A1 n1 c1, .slice A2 n2 c2, .int .i64 b.next] 28 (0, 0)) := by
    have := heap_alloc_new (w.alloc (.cells #[.int .i64 s.K, .int .i64 s.M, .int .i64 s.size] 23)) (.cells #[.slice A0 n0 c0, .slice A1 n1 c1, .slice A2 n2 c2, .int .i64 b.next] 28)
    simpa only [World.size_alloc] using this
  have hz : w.heap.size + 1 < ((w.alloc (.cells #[.int .i64 s.K, .int .i64 s.M, .int .i64 s.size] 23)).alloc (.cells #[.slice A0 n0 c0, .slice A1 n1 c1, .slice A2 n2 c2, .int .i64 b.next] 28)).heap.size := by simp
  go_enter Try.func7, Try.ntmps7
  go_upto_region 1 with (fail)
  generalize ((w.alloc (.cells #[.int .i64 s.K, .int .i64 s.M, .int .i64 s.size] 23)).alloc (.cells #[.slice A0 n0 c0, .slice A1 n1 c1, .slice A2 n2 c2, .int .i64 b.next] 28)) = W0 at *
  have HAL := Lib.hid (fun V (hV : Below W0.heap.size W0 V) => hal.trans (hV.mono hal.size)); clear hal
  have ROW := Lib.hid (fun V (hV : Below W0.heap.size W0 V) => (show V.heap[w.heap.size]? = some (.cells #[.int .i64 s.K, .int .i64 s.M, .int .i64 s.size] 23 (0, 0)) ∧ V.heap[w.heap.size + 1]? = some (.cells #[.slice A0 n0 c0, .slice A1 n1 c1, .slice A2 n2 c2, .int .i64 b.next] 28 (0, 0)) from ⟨(hV.block _ (by omega)).trans hr0, (hV.block _ (by omega)).trans hr1⟩))
  clear hr0 hr1
  obtain ⟨r0, r1⟩ := ROW.out W0 (Below.refl _ _)
  have b00 := (cell_of_row _ _ 0 _ _ _ r0).trans (show _ = some (.int .i64 s.K : Value) from rfl)
  have b01 := (cell_of_row _ _ 1 _ _ _ r0).trans (show _ = some (.int .i64 s.M : Value) from rfl)
  have b02 := (cell_of_row _ _ 2 _ _ _ r0).trans (show _ = some (.int .i64 s.size : Value) from rfl)
  have b10 := (cell_of_row _ _ 0 _ _ _ r1).trans (show _ = some (.slice _ n0 c0 : Value) from rfl)
  have b11 := (cell_of_row _ _ 1 _ _ _ r1).trans (show _ = some (.slice _ n1 c1 : Value) from rfl)
  have b12 := (cell_of_row _ _ 2 _ _ _ r1).trans (show _ = some (.slice _ n2 c2 : Value) from rfl)
  have b13 := (cell_of_row _ _ 3 _ _ _ r1).trans (show _ = some (.int .i64 b.next : Value) from rfl)
  clear r0 r1
  go_wp2_with fail
  refine (HM.out _ (HAL.out _ (Below.refl _ _))).mono ?_
  clear b00 b01 b02 b10 b11 b12 b13
  rintro e w1 ⟨rfl, hb1⟩
  have HB1 := Lib.hid hb1; clear hb1
  obtain ⟨q, hq⟩ : ∃ q, q = bookOk s b := ⟨_, rfl⟩
  rw [← hq]
  have HQ := Lib.hid hq.symm; clear hq
  cases q with
  | false =>
    have HE : Hid (linesR s b = ([], 1)) := Lib.hid (by unfold linesR; rw [HQ.out]; rfl)
    go_wp2
    refine bodyPost_ret (v := .tuple #[.slice none 0 0, .int .i64 1]) (by simp [results, Try.results7, go_sem, *]; done) rfl ?_
    exact ⟨none, 0, 0, by rw [HE.out], by rw [HE.out]; exact Sl.nil_ (by omega), HAL.out _ HB1.out⟩
  | true =>
    have HE : Hid (linesR s b = (linesB b, 0)) := Lib.hid (by unfold linesR; rw [HQ.out]; rfl)
    obtain ⟨r0, r1⟩ := ROW.out w1 HB1.out
    have b10 := (cell_of_row _ _ 0 _ _ _ r1).trans (show _ = some (.slice _ n0 c0 : Value) from rfl)
    have b11 := (cell_of_row _ _ 1 _ _ _ r1).trans (show _ = some (.slice _ n1 c1 : Value) from rfl)
    have b12 := (cell_of_row _ _ 2 _ _ _ r1).trans (show _ = some (.slice _ n2 c2 : Value) from rfl)
    have b13 := (cell_of_row _ _ 3 _ _ _ r1).trans (show _ = some (.int .i64 b.next : Value) from rfl)
    clear r0 r1
    go_wp2_with fail
    refine (HA.out _ (HAL.out _ HB1.out) HQ.out).mono ?_
    clear b10 b11 b12 b13
    rintro e w2 ⟨A, c, rfl, ho, hb2⟩
    have HO := Lib.hid ho; clear ho
    have HB2 := Lib.hid (HB1.out.trans (hb2.mono HB1.out.size)); clear hb2
    have hsz := (HAL.out _ HB1.out).size
    generalize hln : (linesB b).length = n at *
    have HLN := Lib.hid hln; clear hln
    go_wp2
    refine bodyPost_ret (v := .tuple #[.slice A n c, .int .i64 0]) (by simp [results, Try.results7, go_sem, *]; done) rfl ?_
    exact ⟨A, n, c, by rw [HE.out], by rw [HE.out]; exact (HO.out.sl (tg := true)).mono (fun k hk _ => by rcases hk with hk | hk <;> omega), HAL.out _ HB2.out⟩
set_option maxHeartbeats 2000000 in
theorem RecordsWeight_nil {w : World} {A : Option Addr} {c : Nat} : Calls Try.prog 13 #[.slice A 0 c] w (RetV (.int .i64 0) w) := by
  go_enter Try.func13, Try.ntmps13
  go_wp2_with fail
  go_loopw [3, 4] (fun a b wr => a = .int .i64 0 ∧ b = .int .i64 0 ∧ Hid (Below w.heap.size w wr)) (fun _ _ _ => 0)
  case atStart => exact ⟨rfl, rfl, Lib.hid (Below.refl _ _)⟩
  case round =>
    obtain ⟨rfl, rfl, HBw⟩ := hrel
    go_wp2
    go_ret
    exact ⟨rfl, HBw.out⟩
set_option maxHeartbeats 2000000 in
theorem Texts_nil {w : World} {A : Option Addr} {c : Nat} : Calls Try.prog 24 #[.slice A 0 c] w (RetV (.int .i64 0) w) := by
  go_enter Try.func24, Try.ntmps24
  go_wp2_with fail
  go_loopw [3, 4] (fun a b wr => a = .int .i64 0 ∧ b = .int .i64 0 ∧ Hid (Below w.heap.size w wr)) (fun _ _ _ => 0)
  case atStart => exact ⟨rfl, rfl, Lib.hid (Below.refl _ _)⟩
  case round =>
    obtain ⟨rfl, rfl, HBw⟩ := hrel
    go_wp2
    go_ret
    exact ⟨rfl, HBw.out⟩
set_option maxRecDepth 100000 in
set_option maxHeartbeats 4000000 in
theorem Heavy13_nil {w : World} : Calls Try.prog 10 #[.agg #[.slice none 0 0, .slice none 0 0, .slice none 0 0]] w (RetV (.bool false) w) := by
  have hal : Below w.heap.size w (w.alloc (.cells #[.slice none 0 0, .slice none 0 0, .slice none 0 0] 46)) := (by repeat' (first | (with_reducible exact Below.refl _ _) | (with_reducible refine Below.alloc ?_ ?_ _) | (with_reducible refine Below.drew ?_) | (with_reducible refine below_drewN ?_ _) | (with_reducible refine Below.setCell ?_ ?_ _) | (refine via ?_ (by with_reducible assumption) ?_) | (refine via ?_ (below_ext _ _) ?_) | go_size))
  have hr0 : (w.alloc (.cells #[.slice none 0 0, .slice none 0 0, .slice none 0 0] 46)).heap[w.heap.size]? = some (.cells #[.slice none 0 0, .slice none 0 0, .slice none 0 0] 46 (0, 0)) := by
    have := heap_alloc_new w (.cells #[.slice none 0 0, .slice none 0 0, .slice none 0 0] 46)
    simpa only [World.size_alloc] using this
  have hz : w.heap.size < (w.alloc (.cells #[.slice none 0 0, .slice none 0 0, .slice none 0 0] 46)).heap.size := by simp
  go_enter Try.func10, Try.ntmps10
  go_upto_region 1 with (fail)
  generalize (w.alloc (.cells #[.slice none 0 0, .slice none 0 0, .slice none 0 0] 46)) = W0 at *
  have HAL := Lib.hid (fun V (hV : Below W0.heap.size W0 V) => hal.trans (hV.mono hal.size)); clear hal
  have ROW := Lib.hid (fun V (hV : Below W0.heap.size W0 V) => (show V.heap[w.heap.size]? = some (.cells #[.slice none 0 0, .slice none 0 0, .slice none 0 0] 46 (0, 0)) from (hV.block _ (by omega)).trans hr0))
  clear hr0
  have r0 := ROW.out W0 (Below.refl _ _)
  have b00 := (cell_of_row _ _ 0 _ _ _ r0).trans (show _ = some (.slice none 0 0 : Value) from rfl)
  clear r0
  go_wp2_with fail
  refine RecordsWeight_nil.mono ?_
  clear b00
  rintro e w1 ⟨rfl, hb1⟩
  have HB1 := Lib.hid hb1; clear hb1
  have r0 := ROW.out w1 HB1.out
  have b01 := (cell_of_row _ _ 1 _ _ _ r0).trans (show _ = some (.slice none 0 0 : Value) from rfl)
  clear r0
  go_wp2_with fail
  refine Texts_nil.mono ?_
  clear b01
  rintro e w2 ⟨rfl, hb2⟩
  have HB2 := Lib.hid (HB1.out.trans (hb2.mono HB1.out.size)); clear hb2
  have r0 := ROW.out w2 HB2.out
  have b02 := (cell_of_row _ _ 2 _ _ _ r0).trans (show _ = some (.slice none 0 0 : Value) from rfl)
  clear r0
  go_wp2
  go_ret
  exact ⟨rfl, HAL.out _ HB2.out⟩
end Go.Proofs.Ytipecejghioicaa
