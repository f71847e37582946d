/- slices.Clone of slots; what was written for a stripe: place.of. Printed by gen_f1.py. -/
import Derived.Test.YtfccghfcilccfaaS3
import Derived.Test.YtfccghfcilccfaaE2
import Derived.Deep.Cut
namespace Go.Proofs.Ytfccghfcilccfaa
open Go.RowKit Go.Silo

set_option maxHeartbeats 400000 in
theorem Clone_slot {tg : Bool} {T : TypeId} {S : Nat → Prop} {w : World} {A : Option Addr} {n c : Nat} {xs : List (Slot)} (h : Sl tg T slotE w S A n c xs) (hn : n ≤ 100000000) :
    Calls Try.prog 118 #[.slice A n c] w (RetOwn 104 slotE w xs) := by
  obtain ⟨i0, hi, hz0, hz1, hz2⟩ := info_parts Try.info_Slot
  have HL := Lib.hid h.len
  have hq := fun W : World => Lib.run_eql_slice_nil (P := Try.prog) W 71 104 A n c 0 0 Try.underlying71
  cases A with
  | none =>
    go_enter Try.func118, Try.ntmps118
    go_wp2
    go_ret
    have hn0 : n = 0 := by
      rcases Nat.eq_zero_or_pos n with h0 | h0
      · exact h0
      · obtain ⟨_, _, e, _⟩ := h.2.2.2 h0; cases e
    subst hn0
    obtain rfl : xs = [] := List.eq_nil_of_length_eq_zero HL.out
    exact ⟨none, 0, rfl, Own.nil_, Below.refl _ _⟩
  | some ad =>
    have hlit : Own 104 slotE (w.alloc (.cells #[] 104)) w.heap.size (fun b => w.heap.size ≤ b) (some ⟨w.heap.size, 0, none⟩) 0 0 [] := Own.lit [] [] 0 (Nat.le_refl _) (by omega) (by simp) rfl (fun k y hy => by simp at hy)
    have hsl := (h.lt_block).frame (Agree.alloc _ w (.cells #[] 104)) (by simp)
    rcases Nat.eq_zero_or_pos n with h0 | h0
    · subst h0
      obtain rfl : xs = [] := List.eq_nil_of_length_eq_zero HL.out
      go_enter Try.func118, Try.ntmps118
      go_wp2_with (at_builtin; refine wpList_append_Own rfl _ _ 71 rfl i0 (.agg #[.int .i64 0, .int .i64 0]) 16 Try.underlying71 hi hz0 hz1 hz2 rfl (by decide) rfl hlit ad 0 _ [] [] rfl (by simp) (fun j u hj => by simp at hj) rfl (fun k y hy => by simp at hy) (fun u hu => by simp at hu) (by omega) (by omega) (by simp) ?_)
      intro A2 c2 w2 hown2 hg2 _
      go_wp2
      go_ret
      exact ⟨A2, c2, rfl, hown2, ((Below.refl _ w).alloc (Nat.le_refl _) _).grown hg2 (by simp) (fun k hk => by simp [ablk] at hk; omega)⟩
    · obtain ⟨b, off, e, _⟩ := h.2.2.2 h0
      injection e with e
      subst e
      go_enter Try.func118, Try.ntmps118
      go_wp2_with (at_builtin; refine wpList_append_sl rfl _ _ 71 rfl i0 (.agg #[.int .i64 0, .int .i64 0]) 16 Try.underlying71 hi hz0 hz1 hz2 rfl (by decide) rfl hlit rfl hsl (fun vs y _ hR => hR) (by omega) (by omega) (by simp) ?_)
      intro A2 c2 w2 hown2 hg2 _
      try simp only [Nat.zero_add, List.nil_append] at hown2
      have e1 := HL.out
      subst e1
      go_wp2
      go_ret
      exact ⟨A2, c2, by simp, hown2, ((Below.refl _ w).alloc (Nat.le_refl _) _).grown hg2 (by simp) (fun k hk => by simp [ablk] at hk; omega)⟩


/-- Piece number k of a need is one of the stripe's, behind the one before it, and goes to a slot that may be. -/
def ofAt (x : Stripe) (nd : Need) (k : Nat) : Bool :=
  !(decide (nd.index.getD k 0 < 0) || decide ((x.place.length : Int) ≤ nd.index.getD k 0) || (decide (0 < k) && decide (nd.index.getD k 0 ≤ nd.index.getD (k - 1) 0)) || !slotOk (nd.to.getD k default) || decide ((nd.to.getD k default).disk = -1))
def ofB (x : Stripe) (nd : Need) : Bool := decide (nd.stripe = x.id) && decide (nd.index.length = nd.to.length) && (List.range nd.index.length).all (ofAt x nd)
theorem ofB_true {x : Stripe} {nd : Need} (h1 : nd.stripe = x.id) (h2 : nd.index.length = nd.to.length) (h : ∀ j, j < nd.index.length → ofAt x nd j = true) : ofB x nd = true := by
  unfold ofB
  rw [decide_eq_true h1, decide_eq_true h2, Bool.true_and, Bool.true_and]
  exact List.all_eq_true.2 fun i hi => h i (List.mem_range.1 hi)
theorem ofB_false {x : Stripe} {nd : Need} {k : Nat} (hk : k < nd.index.length) (h : ofAt x nd k = false) : ofB x nd = false := by
  unfold ofB
  have : (List.range nd.index.length).all (ofAt x nd) = false := by
    cases hh : (List.range nd.index.length).all (ofAt x nd) with
    | false => rfl
    | true => have := List.all_eq_true.1 hh k (List.mem_range.2 hk); rw [h] at this; cases this
  rw [this, Bool.and_false]

set_option maxHeartbeats 4000000 in
theorem placeOf_c {tg tg0 tg1 : Bool} {S S0 S1 : Nat → Prop} {w : World} {A A0 A1 : Option Addr} {n c n0 c0 n1 c1 : Nat} {x : Stripe} {nd : Need}
    (h : Sl tg 104 slotE w S A n c x.place) (h0 : Sl tg0 3 intE w S0 A0 n0 c0 nd.index) (h1 : Sl tg1 104 slotE w S1 A1 n1 c1 nd.to) :
    Calls Try.prog 117 #[.agg #[.int .i64 x.id, .int .i64 x.len, .int .i64 x.gen, .slice A n c], .agg #[.int .i64 nd.stripe, .slice A0 n0 c0, .slice A1 n1 c1]] w (RetV (.bool (ofB x nd)) w) := by
  have HL := Lib.hid h.len
  have HL0 := Lib.hid h0.len
  have HL1 := Lib.hid h1.len
  have hcap : n ≤ 9223372036854775807 := Nat.le_trans h.le h.cap
  have hcap0 : n0 ≤ 9223372036854775807 := Nat.le_trans h0.le h0.cap
  have hcap1 : n1 ≤ 9223372036854775807 := Nat.le_trans h1.le h1.cap
  have hrow0 : ((w.alloc (.cells #[.int .i64 x.id, .int .i64 x.len, .int .i64 x.gen, .slice A n c] 79)).alloc (.cells #[.int .i64 nd.stripe, .slice A0 n0 c0, .slice A1 n1 c1] 88)).heap[w.heap.size]? = some (.cells #[.int .i64 x.id, .int .i64 x.len, .int .i64 x.gen, .slice A n c] 79 (0, 0)) := (Below.heap_alloc _ _ _ (by simp)).trans (heap_alloc_new w _)
  have hrow1 : ((w.alloc (.cells #[.int .i64 x.id, .int .i64 x.len, .int .i64 x.gen, .slice A n c] 79)).alloc (.cells #[.int .i64 nd.stripe, .slice A0 n0 c0, .slice A1 n1 c1] 88)).heap[w.heap.size + 1]? = some (.cells #[.int .i64 nd.stripe, .slice A0 n0 c0, .slice A1 n1 c1] 88 (0, 0)) := by
    have := heap_alloc_new (w.alloc (.cells #[.int .i64 x.id, .int .i64 x.len, .int .i64 x.gen, .slice A n c] 79)) (.cells #[.int .i64 nd.stripe, .slice A0 n0 c0, .slice A1 n1 c1] 88)
    rw [World.size_alloc] at this; exact this
  have hB0 : Below w.heap.size w ((w.alloc (.cells #[.int .i64 x.id, .int .i64 x.len, .int .i64 x.gen, .slice A n c] 79)).alloc (.cells #[.int .i64 nd.stripe, .slice A0 n0 c0, .slice A1 n1 c1] 88)) := (by repeat' (first | (with_reducible exact Below.refl _ _) | (with_reducible refine Below.alloc ?_ ?_ _) | (with_reducible refine Below.drew ?_) | (with_reducible refine below_drewN ?_ _) | (with_reducible refine Below.setCell ?_ ?_ _) | (refine via ?_ (by with_reducible assumption) ?_) | (refine via ?_ (below_ext _ _) ?_) | go_size))
  have hz0 : ((w.alloc (.cells #[.int .i64 x.id, .int .i64 x.len, .int .i64 x.gen, .slice A n c] 79)).alloc (.cells #[.int .i64 nd.stripe, .slice A0 n0 c0, .slice A1 n1 c1] 88)).heap.size = w.heap.size + 2 := by simp
  go_enter Try.func117, Try.ntmps117
  go_upto_region 1 with (fail)
  generalize ((w.alloc (.cells #[.int .i64 x.id, .int .i64 x.len, .int .i64 x.gen, .slice A n c] 79)).alloc (.cells #[.int .i64 nd.stripe, .slice A0 n0 c0, .slice A1 n1 c1] 88)) = W0 at *
  have CELLS := Lib.hid (fun W (hW : Below W0.heap.size W0 W) => (show (W.cell? ⟨w.heap.size, 0, none⟩ = some (.int .i64 x.id) ∧ W.cell? ⟨w.heap.size, 3, none⟩ = some (.slice A n c)) ∧ W.cell? ⟨w.heap.size + 1, 0, none⟩ = some (.int .i64 nd.stripe) ∧ W.cell? ⟨w.heap.size + 1, 1, none⟩ = some (.slice A0 n0 c0) ∧ W.cell? ⟨w.heap.size + 1, 2, none⟩ = some (.slice A1 n1 c1) from by
    have r0 := (hW.block w.heap.size (by omega)).trans hrow0
    have r1 := (hW.block (w.heap.size + 1) (by omega)).trans hrow1
    exact ⟨⟨cell_of_row W _ 0 _ _ _ r0, cell_of_row W _ 3 _ _ _ r0⟩, cell_of_row W _ 0 _ _ _ r1, cell_of_row W _ 1 _ _ _ r1, cell_of_row W _ 2 _ _ _ r1⟩))
  have HALL := Lib.hid (fun W (hW : Below W0.heap.size W0 W) => hB0.trans (hW.mono (by omega)))
  clear hrow0 hrow1 hB0 hz0
  obtain ⟨⟨x0, x3⟩, y0, y1, y2⟩ := CELLS.out W0 (Below.refl _ _)
  by_cases hst : nd.stripe = x.id
  · have hq : (nd.stripe != x.id) = false := by simp [hst]
    have HST := Lib.hid hst; clear hst
    by_cases hln : n0 = n1
    · subst hln
      go_wp2_with fail
      go_loopw [24] (fun i wr => ∃ k : Nat, k ≤ n0 ∧ i = .int .i64 k ∧ Hid (Below W0.heap.size W0 wr) ∧ Hid (∀ j, j < k → ofAt x nd j = true)) (fun i _ => n0 - (intOf i).toNat)
      case atStart => exact ⟨0, Nat.zero_le _, rfl, Lib.hid (Below.refl _ _), Lib.hid (fun j hj => by omega)⟩
      case round =>
        clear x0 x3 y0 y1 y2 hq
        obtain ⟨k, hk, rfl, HB, he⟩ := hrel
        by_cases hlt : k < n0
        · obtain ⟨⟨x0, x3⟩, y0, y1, y2⟩ := CELLS.out wr HB.out
          obtain ⟨b, off, rfl, hS, hbl, g1, hc0, _⟩ := (h0.all (HALL.out _ HB.out)).int_at hlt
          obtain ⟨b1, off1, rfl, hS1, hbl1, g2, g3, hd0, hd1, _⟩ := (h1.all (HALL.out _ HB.out)).slot_at hlt
          have hat : ofAt x nd k = !(decide (nd.index.getD k 0 < 0) || decide ((n : Int) ≤ nd.index.getD k 0) || (decide (0 < k) && decide (nd.index.getD k 0 ≤ nd.index.getD (k - 1) 0)) || !slotOk (nd.to.getD k default) || decide ((nd.to.getD k default).disk = -1)) := by unfold ofAt; rw [HL.out]
          have hprev : 0 < k → wr.cell? ⟨b, off + (k - 1), none⟩ = some (.int .i64 (nd.index.getD (k - 1) 0)) ∧ I64 (nd.index.getD (k - 1) 0) := fun h0k => by
            obtain ⟨b', off', e, _, _, g, hc, _⟩ := (h0.all (HALL.out _ HB.out)).int_at (show k - 1 < n0 by omega)
            injection e with e; injection e with e1 e2; subst e1 e2; exact ⟨hc, g⟩
          generalize nd.index.getD k 0 = i at *
          generalize nd.to.getD k default = p at *
          have HAT := Lib.hid hat; clear hat
          have HF := Lib.hid (fun hf : ofAt x nd k = false => ofB_false (x := x) (nd := nd) (by have := HL0.out; omega) hf)
          have HPREV := Lib.hid hprev; clear hprev
          have hg : -9223372036854775808 ≤ i ∧ i ≤ 9223372036854775807 := g1
          by_cases c1' : i < 0
          · have HF2 := Lib.hid (HF.out (by rw [HAT.out, decide_eq_true c1']; rfl))
            go_wp2
            go_ret
            exact ⟨by rw [HF2.out]; rfl, HALL.out _ HB.out⟩
          · by_cases c2' : (n : Int) ≤ i
            · have HF2 := Lib.hid (HF.out (by rw [HAT.out, decide_eq_true c2']; simp))
              go_wp2
              go_ret
              exact ⟨by rw [HF2.out]; rfl, HALL.out _ HB.out⟩
            · by_cases k0 : 0 < k
              · obtain ⟨hp, gp⟩ := HPREV.out k0
                have hk1 : ((k : Int) - 1) = ((k - 1 : Nat) : Int) := by omega
                generalize nd.index.getD (k - 1) 0 = j at *
                generalize hkm : k - 1 = km at *
                obtain rfl : k = km + 1 := by omega
                clear hkm
                by_cases c3' : i ≤ j
                · have HF2 := Lib.hid (HF.out (by rw [HAT.out, decide_eq_true c3']; simp))
                  go_wp2
                  go_ret
                  exact ⟨by rw [HF2.out]; rfl, HALL.out _ HB.out⟩
                · have HAT2 : Hid (ofAt x nd (km + 1) = !(!slotOk p || decide (p.disk = -1))) := Lib.hid (by rw [HAT.out, decide_eq_false c1', decide_eq_false c2', decide_eq_false c3']; simp)
                  go_wp2_with fail
                  refine (slot_c (p := p)).mono ?_
                  rintro e w2 ⟨rfl, hb2⟩
                  have hd0' := (hb2.cell (p := ⟨b1, off1 + (km + 1) * 2, none⟩) hbl1).trans hd0
                  have HB2 := Lib.hid (HB.out.trans (hb2.mono HB.out.size))
                  clear x0 x3 y0 y1 y2 hd0 hd1 hc0 hb2
                  obtain ⟨⟨x0, x3⟩, y0, y1, y2⟩ := CELLS.out w2 HB2.out
                  cases hsl : slotOk p with
                  | false =>
                    have HF2 := Lib.hid (HF.out (by rw [HAT2.out, hsl]; rfl))
                    clear hsl
                    go_wp2
                    go_ret
                    exact ⟨by rw [HF2.out]; rfl, HALL.out _ HB2.out⟩
                  | true =>
                    by_cases hdk : p.disk = -1
                    · have HF2 := Lib.hid (HF.out (by rw [HAT2.out, hsl, decide_eq_true hdk]; rfl))
                      rw [hdk] at hd0'
                      clear hdk hsl
                      go_wp2
                      go_ret
                      exact ⟨by rw [HF2.out]; rfl, HALL.out _ HB2.out⟩
                    · have HOK : Hid (∀ j, j < km + 1 + 1 → ofAt x nd j = true) := Lib.hid (fun j hj => by
                        rcases Nat.lt_or_ge j (km + 1) with hjk | hjk
                        · exact he.out j hjk
                        · obtain rfl : j = km + 1 := by omega
                          rw [HAT2.out, hsl, decide_eq_false hdk]; rfl)
                      clear hsl
                      go_wp2
                      go_roundw
                      case rel => exact ⟨km + 1 + 1, by omega, by go_num, HB2, HOK⟩
                      case measure => simp [intOf]; omega
              · have HAT2 : Hid (ofAt x nd k = !(!slotOk p || decide (p.disk = -1))) := Lib.hid (by rw [HAT.out, decide_eq_false c1', decide_eq_false c2', decide_eq_false k0]; simp)
                go_wp2_with fail
                refine (slot_c (p := p)).mono ?_
                rintro e w2 ⟨rfl, hb2⟩
                have hd0' := (hb2.cell (p := ⟨b1, off1 + (k) * 2, none⟩) hbl1).trans hd0
                have HB2 := Lib.hid (HB.out.trans (hb2.mono HB.out.size))
                clear x0 x3 y0 y1 y2 hd0 hd1 hc0 hb2
                obtain ⟨⟨x0, x3⟩, y0, y1, y2⟩ := CELLS.out w2 HB2.out
                cases hsl : slotOk p with
                | false =>
                  have HF2 := Lib.hid (HF.out (by rw [HAT2.out, hsl]; rfl))
                  clear hsl
                  go_wp2
                  go_ret
                  exact ⟨by rw [HF2.out]; rfl, HALL.out _ HB2.out⟩
                | true =>
                  by_cases hdk : p.disk = -1
                  · have HF2 := Lib.hid (HF.out (by rw [HAT2.out, hsl, decide_eq_true hdk]; rfl))
                    rw [hdk] at hd0'
                    clear hdk hsl
                    go_wp2
                    go_ret
                    exact ⟨by rw [HF2.out]; rfl, HALL.out _ HB2.out⟩
                  · have HOK : Hid (∀ j, j < k + 1 → ofAt x nd j = true) := Lib.hid (fun j hj => by
                      rcases Nat.lt_or_ge j (k) with hjk | hjk
                      · exact he.out j hjk
                      · obtain rfl : j = k := by omega
                        rw [HAT2.out, hsl, decide_eq_false hdk]; rfl)
                    clear hsl
                    go_wp2
                    go_roundw
                    case rel => exact ⟨k + 1, by omega, by go_num, HB2, HOK⟩
                    case measure => simp [intOf]; omega
        · have HF : Hid (ofB x nd = true) := Lib.hid (ofB_true HST.out (by have := HL0.out; have := HL1.out; omega) (fun j hj => he.out j (by have := HL0.out; omega)))
          go_wp2
          go_ret
          exact ⟨by rw [HF.out]; rfl, HALL.out _ HB.out⟩
    · have hq2 : (((n0 : Nat) : Int) != ((n1 : Nat) : Int)) = true := by simp; omega
      have HF : Hid (ofB x nd = false) := Lib.hid (by unfold ofB; rw [decide_eq_false (show ¬ nd.index.length = nd.to.length by have := HL0.out; have := HL1.out; omega), Bool.and_false, Bool.false_and])
      go_wp2
      go_ret
      exact ⟨by rw [HF.out]; rfl, HALL.out _ (Below.refl _ _)⟩
  · have hq : (nd.stripe != x.id) = true := by simp [hst]
    have HF : Hid (ofB x nd = false) := Lib.hid (by unfold ofB; rw [decide_eq_false hst, Bool.false_and, Bool.false_and])
    clear hst
    go_wp2
    go_ret
    exact ⟨by rw [HF.out]; rfl, HALL.out _ (Below.refl _ _)⟩
end Go.Proofs.Ytfccghfcilccfaa
