/- book.May: may a book be? Printed by gen_q10.py. -/
import Derived.Test.YtipecejghioicaaQ5r
import Derived.Test.YtipecejghioicaaQ7r
import Derived.Test.YtipecejghioicaaE2r
import Derived.Test.YtipecejghioicaaB2r
import Derived.Test.YtipecejghioicaaS9r
import Derived.Test.YtipecejghioicaaB6r
import Derived.Test.YtipecejghioicaaQ8r
-- from Q9r
namespace Go.Proofs.Ytipecejghioicaa
open Go.RowKit Go.Silo

/-- May a book of a shape be? -/
def bookOk (s : Shape) (b : Book) : Bool := shapeOk s && (decide (0 ≤ b.next ∧ b.next ≤ 1073741824) && (stripesOk s b.next b.stripes && (thingsOk s b.stripes b.things && tagsOk b.tags)))
/-- Its lists are no longer than so. -/
structure Few (b : Book) : Prop where
  st : b.stripes.length ≤ 4000
  sl : (slotsTo b.stripes b.stripes.length).length ≤ 1000000
  nm : (namedTo b.things b.things.length).length ≤ 1000000
theorem stripesOk_ids {s : Shape} {nx : Int} {l : List Stripe} (h : stripesOk s nx l = true) : ∀ i j, i < j → j < l.length → (l.getD i default).id < (l.getD j default).id := by
  unfold stripesOk at h
  rw [Bool.and_eq_true] at h
  have h1 := List.all_eq_true.1 h.1
  have step : ∀ j, j + 1 < l.length → (l.getD j default).id < (l.getD (j + 1) default).id := fun j hj => by
    have := h1 (j + 1) (List.mem_range.2 hj)
    unfold stripeAt at this
    simp only [Bool.and_eq_true, Bool.or_eq_true, decide_eq_true_eq] at this
    obtain ⟨_, _, h | h⟩ := this
    · omega
    · exact h
  intro i j hij
  induction j with
  | zero => omega
  | succ j ih =>
    intro hj
    have h2 := step j hj
    rcases Nat.lt_or_ge i j with h3 | h3
    · have := ih h3 (by omega); omega
    · obtain rfl : i = j := by omega
      exact h2
theorem stripesOk_each {s : Shape} {nx : Int} {l : List Stripe} (h : stripesOk s nx l = true) : ∀ k, k < l.length → stripeOk s (l.getD k default) = true ∧ (l.getD k default).id < nx := by
  unfold stripesOk at h
  rw [Bool.and_eq_true] at h
  intro k hk
  have := (List.all_eq_true.1 h.1) k (List.mem_range.2 hk)
  unfold stripeAt at this
  simp only [Bool.and_eq_true, decide_eq_true_eq] at this
  exact ⟨this.1, this.2.1⟩
theorem stripeOk_len {s : Shape} {x : Stripe} (h : stripeOk s x = true) : 1 ≤ x.len ∧ x.len ≤ s.K * s.size ∧ (x.place.length : Int) = s.K + s.M ∧ 0 ≤ x.id ∧ x.id ≤ 1073741824 ∧ 0 ≤ x.gen ∧ x.gen ≤ 1073741824 ∧ shapeOk s = true := by
  unfold stripeOk numOk at h
  simp only [Bool.and_eq_true, decide_eq_true_eq] at h
  obtain ⟨⟨⟨⟨⟨⟨h1, h2⟩, h3⟩, h4⟩, h5⟩, h6⟩, _⟩ := h
  exact ⟨h4, h5, h6, h2.1, h2.2, h3.1, h3.2, h1⟩
end Go.Proofs.Ytipecejghioicaa
namespace Go.Proofs.Ytipecejghioicaa
open Go.RowKit Go.Silo

/-- A book's cells. -/
structure BookR (w : World) (S : Nat → Prop) (tg tg0 tg1 tg2 : Bool) (A0 : Option Addr) (n0 c0 : Nat) (A1 : Option Addr) (n1 c1 : Nat) (A2 : Option Addr) (n2 c2 : Nat) (b : Book) : Prop where
  st : Sl tg 69 (stripeE tg0) w S A0 n0 c0 b.stripes
  th : Sl tg 71 (entryE tg1) w S A1 n1 c1 b.things
  ta : Sl tg2 73 tagE w S A2 n2 c2 b.tags
  nx : I64 b.next
section
variable {w w' : World} {S S' : Nat → Prop} {tg tg0 tg1 tg2 : Bool} {A0 A1 A2 : Option Addr} {n0 c0 n1 c1 n2 c2 : Nat} {b : Book}
theorem BookR.all (h : BookR w S tg tg0 tg1 tg2 A0 n0 c0 A1 n1 c1 A2 n2 c2 b) (hb : Below w.heap.size w w') : BookR w' S tg tg0 tg1 tg2 A0 n0 c0 A1 n1 c1 A2 n2 c2 b := ⟨h.st.all hb, h.th.all hb, h.ta.all hb, h.nx⟩
theorem BookR.mono (h : BookR w S tg tg0 tg1 tg2 A0 n0 c0 A1 n1 c1 A2 n2 c2 b) (hS : ∀ k, S k → k < w.heap.size → S' k) : BookR w S' tg tg0 tg1 tg2 A0 n0 c0 A1 n1 c1 A2 n2 c2 b := ⟨h.st.mono hS, h.th.mono hS, h.ta.mono hS, h.nx⟩
end
set_option maxRecDepth 100000 in
set_option maxHeartbeats 4000000 in
theorem May_c {tg tg0 tg1 tg2 : Bool} {S : Nat → Prop} {w : World} {A0 A1 A2 : Option Addr} {n0 c0 n1 c1 n2 c2 : Nat} {s : Shape} {b : Book} (hsi : I64 s.K ∧ I64 s.M ∧ I64 s.size) (hf : Few b) (h : BookR w S tg tg0 tg1 tg2 A0 n0 c0 A1 n1 c1 A2 n2 c2 b) :
    Calls Try.prog 14 #[.agg #[.int .i64 s.K, .int .i64 s.M, .int .i64 s.size], .agg #[.slice A0 n0 c0, .slice A1 n1 c1, .slice A2 n2 c2, .int .i64 b.next]] w (RetV (.bool (bookOk s b)) w) := by
  have HR0 : Hid (bookOk s b = (shapeOk s && (decide (0 ≤ b.next ∧ b.next ≤ 1073741824) && (stripesOk s b.next b.stripes && (thingsOk s b.stripes b.things && tagsOk b.tags))))) := Lib.hid rfl
  have hn0 : n0 ≤ 4000 := by have := hf.st; have := h.st.len; omega
  have HSS := Lib.hid (fun W (hW : Below w.heap.size w W) => bookStripes_c (w := W) (A1 := A1) (A2 := A2) (n1 := n1) (c1 := c1) (n2 := n2) (c2 := c2) (nx := b.next) hsi (h.st.all hW) hf.sl)
  have HTT := Lib.hid (fun W (hW : Below w.heap.size w W) (hsh : shapeOk s = true) (hs : stripesOk s b.next b.stripes = true) => things_c (w := W) (A2 := A2) (n2 := n2) (c2 := c2) (nx := b.next) hsh (h.st.all hW) (by omega) (fun i j h1 h2 => stripesOk_ids hs i j h1 (by have := h.st.len; omega)) (h.th.all hW) hf.nm)
  have HGG := Lib.hid (fun W (hW : Below w.heap.size w W) => tags_c (w := W) (h.ta.all hW))
  generalize bookOk s b = R at *
  clear h hf hsi
  have hal : Below w.heap.size w ((w.alloc (.cells #[.int .i64 s.K, .int .i64 s.M, .int .i64 s.size] 23)).alloc (.cells #[.slice A0 n0 c0, .slice A1 n1 c1, .slice A2 n2 c2, .int .i64 b.next] 28)) := (by repeat' (first | (with_reducible exact Below.refl _ _) | (with_reducible refine Below.alloc ?_ ?_ _) | (with_reducible refine Below.drew ?_) | (with_reducible refine below_drewN ?_ _) | (with_reducible refine Below.setCell ?_ ?_ _) | (refine via ?_ (by with_reducible assumption) ?_) | (refine via ?_ (below_ext _ _) ?_) | go_size))
  have hr0 : ((w.alloc (.cells #[.int .i64 s.K, .int .i64 s.M, .int .i64 s.size] 23)).alloc (.cells #[.slice A0 n0 c0, .slice A1 n1 c1, .slice A2 n2 c2, .int .i64 b.next] 28)).heap[w.heap.size]? = some (.cells #[.int .i64 s.K, .int .i64 s.M, .int .i64 s.size] 23 (0, 0)) := by
    rw [Below.heap_alloc _ _ _ (by simp; try omega)]
    have := heap_alloc_new w (.cells #[.int .i64 s.K, .int .i64 s.M, .int .i64 s.size] 23)
    simpa only [World.size_alloc] using this
  have hr1 : ((w.alloc (.cells #[.int .i64 s.K, .int .i64 s.M, .int .i64 s.size] 23)).alloc (.cells #[.slice A0 n0 c0, .slice A1 n1 c1, .slice A2 n2 c2, .int .i64 b.next] 28)).heap[w.heap.size + 1]? = some (.cells #[.slice A0 n0 c0, .slice A1 n1 c1, .slice A2 n2 c2, .int .i64 b.next] 28 (0, 0)) := by
    have := heap_alloc_new (w.alloc (.cells #[.int .i64 s.K, .int .i64 s.M, .int .i64 s.size] 23)) (.cells #[.slice A0 n0 c0, .slice A1 n1 c1, .slice A2 n2 c2, .int .i64 b.next] 28)
    simpa only [World.size_alloc] using this
  have hz : w.heap.size + 1 < ((w.alloc (.cells #[.int .i64 s.K, .int .i64 s.M, .int .i64 s.size] 23)).alloc (.cells #[.slice A0 n0 c0, .slice A1 n1 c1, .slice A2 n2 c2, .int .i64 b.next] 28)).heap.size := by simp
  go_enter Try.func14, Try.ntmps14
  go_upto_region 1 with (fail)
  generalize ((w.alloc (.cells #[.int .i64 s.K, .int .i64 s.M, .int .i64 s.size] 23)).alloc (.cells #[.slice A0 n0 c0, .slice A1 n1 c1, .slice A2 n2 c2, .int .i64 b.next] 28)) = W0 at *
  have HAL := Lib.hid (fun V (hV : Below W0.heap.size W0 V) => hal.trans (hV.mono hal.size)); clear hal
  have ROW := Lib.hid (fun V (hV : Below W0.heap.size W0 V) => (show V.heap[w.heap.size]? = some (.cells #[.int .i64 s.K, .int .i64 s.M, .int .i64 s.size] 23 (0, 0)) ∧ V.heap[w.heap.size + 1]? = some (.cells #[.slice A0 n0 c0, .slice A1 n1 c1, .slice A2 n2 c2, .int .i64 b.next] 28 (0, 0)) from ⟨(hV.block _ (by omega)).trans hr0, (hV.block _ (by omega)).trans hr1⟩))
  clear hr0 hr1
  obtain ⟨r0, r1⟩ := ROW.out W0 (Below.refl _ _)
  have b00 := (cell_of_row _ _ 0 _ _ _ r0).trans (show _ = some (.int .i64 s.K : Value) from rfl)
  have b01 := (cell_of_row _ _ 1 _ _ _ r0).trans (show _ = some (.int .i64 s.M : Value) from rfl)
  have b02 := (cell_of_row _ _ 2 _ _ _ r0).trans (show _ = some (.int .i64 s.size : Value) from rfl)
  clear r0 r1
  go_wp2_with fail
  refine (codeMay_c (s := s)).mono ?_
  rintro e w1 ⟨rfl, hb1⟩
  have HB1 := Lib.hid hb1; clear hb1 b00 b01 b02
  generalize hq : shapeOk s = q at *
  have HQ := Lib.hid hq; clear hq
  cases q with
  | false =>
    have HE : Hid (R = false) := Lib.hid HR0.out
    go_wp2
    go_ret
    exact ⟨by rw [HE.out]; rfl, HAL.out _ HB1.out⟩
  | true =>
    obtain ⟨r0, r1⟩ := ROW.out w1 HB1.out
    have b13 := (cell_of_row _ _ 3 _ _ _ r1).trans (show _ = some (.int .i64 b.next : Value) from rfl)
    have b00 := (cell_of_row _ _ 0 _ _ _ r0).trans (show _ = some (.int .i64 s.K : Value) from rfl)
    have b01 := (cell_of_row _ _ 1 _ _ _ r0).trans (show _ = some (.int .i64 s.M : Value) from rfl)
    have b02 := (cell_of_row _ _ 2 _ _ _ r0).trans (show _ = some (.int .i64 s.size : Value) from rfl)
    have b10 := (cell_of_row _ _ 0 _ _ _ r1).trans (show _ = some (.slice A0 n0 c0 : Value) from rfl)
    have b11 := (cell_of_row _ _ 1 _ _ _ r1).trans (show _ = some (.slice A1 n1 c1 : Value) from rfl)
    have b12 := (cell_of_row _ _ 2 _ _ _ r1).trans (show _ = some (.slice A2 n2 c2 : Value) from rfl)
    clear r0 r1
    by_cases hx1 : 0 ≤ b.next
    · by_cases hx2 : b.next ≤ 1073741824
      · have HR1 := Lib.hid (HR0.out.trans (by rw [decide_eq_true (⟨hx1, hx2⟩ : 0 ≤ b.next ∧ b.next ≤ 1073741824)]; rfl : _ = (stripesOk s b.next b.stripes && (thingsOk s b.stripes b.things && tagsOk b.tags))))
        clear HR0
        go_wp2_with fail
        refine (HSS.out _ (HAL.out _ HB1.out)).mono ?_
        rintro e w2 ⟨rfl, hb2⟩
        have HB2 := Lib.hid (HB1.out.trans (hb2.mono HB1.out.size)); clear hb2 HB1 HSS
        clear b13 b00 b01 b02 b10 b11 b12
        generalize hq2 : stripesOk s b.next b.stripes = q2 at *
        have HQ2 := Lib.hid hq2; clear hq2
        cases q2 with
        | false =>
          have HE : Hid (R = false) := Lib.hid HR1.out
          go_wp2
          go_ret
          exact ⟨by rw [HE.out]; rfl, HAL.out _ HB2.out⟩
        | true =>
          obtain ⟨r0, r1⟩ := ROW.out w2 HB2.out
          have b00 := (cell_of_row _ _ 0 _ _ _ r0).trans (show _ = some (.int .i64 s.K : Value) from rfl)
          have b01 := (cell_of_row _ _ 1 _ _ _ r0).trans (show _ = some (.int .i64 s.M : Value) from rfl)
          have b02 := (cell_of_row _ _ 2 _ _ _ r0).trans (show _ = some (.int .i64 s.size : Value) from rfl)
          have b10 := (cell_of_row _ _ 0 _ _ _ r1).trans (show _ = some (.slice A0 n0 c0 : Value) from rfl)
          have b11 := (cell_of_row _ _ 1 _ _ _ r1).trans (show _ = some (.slice A1 n1 c1 : Value) from rfl)
          have b12 := (cell_of_row _ _ 2 _ _ _ r1).trans (show _ = some (.slice A2 n2 c2 : Value) from rfl)
          have b13 := (cell_of_row _ _ 3 _ _ _ r1).trans (show _ = some (.int .i64 b.next : Value) from rfl)
          clear r0 r1
          go_wp2_with fail
          refine (HTT.out _ (HAL.out _ HB2.out) (by trivial) (by trivial)).mono ?_
          rintro e w3 ⟨rfl, hb3⟩
          have HB3 := Lib.hid (HB2.out.trans (hb3.mono HB2.out.size)); clear hb3 HB2 HTT
          clear b13 b00 b01 b02 b10 b11 b12
          generalize hq3 : thingsOk s b.stripes b.things = q3 at *
          have HQ3 := Lib.hid hq3; clear hq3
          cases q3 with
          | false =>
            have HE : Hid (R = false) := Lib.hid HR1.out
            go_wp2
            go_ret
            exact ⟨by rw [HE.out]; rfl, HAL.out _ HB3.out⟩
          | true =>
            obtain ⟨r0, r1⟩ := ROW.out w3 HB3.out
            have b12 := (cell_of_row _ _ 2 _ _ _ r1).trans (show _ = some (.slice A2 n2 c2 : Value) from rfl)
            clear r0 r1
            go_wp2_with fail
            refine (HGG.out _ (HAL.out _ HB3.out)).mono ?_
            rintro e w4 ⟨rfl, hb4⟩
            have HB4 := Lib.hid (HB3.out.trans (hb4.mono HB3.out.size)); clear hb4 HB3 HGG b12
            generalize hq4 : tagsOk b.tags = q4 at *
            have HQ4 := Lib.hid hq4; clear hq4
            have HE : Hid (R = q4) := Lib.hid HR1.out
            go_wp2
            go_ret
            exact ⟨by rw [HE.out]; rfl, HAL.out _ HB4.out⟩
      · have HE : Hid (R = false) := Lib.hid (HR0.out.trans (by rw [decide_eq_false (fun h => hx2 h.2)]; rfl))
        clear b00 b01 b02 b10 b11 b12
        go_wp2
        go_ret
        exact ⟨by rw [HE.out]; rfl, HAL.out _ HB1.out⟩
    · have HE : Hid (R = false) := Lib.hid (HR0.out.trans (by rw [decide_eq_false (fun h => hx1 h.1)]; rfl))
      clear b00 b01 b02 b10 b11 b12
      go_wp2
      go_ret
      exact ⟨by rw [HE.out]; rfl, HAL.out _ HB1.out⟩
end Go.Proofs.Ytipecejghioicaa
