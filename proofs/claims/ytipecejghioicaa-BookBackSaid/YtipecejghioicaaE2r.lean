/- Which stripes may be: place.apart, May, Check. -/
import Derived.Test.YtipecejghioicaaE1r
namespace Go.Silo
open Go.RowKit
theorem Sl.take {α : Type} {E : Enc α} {tg : Bool} {T : TypeId} {w : World} {S : Nat → Prop} {A : Option Addr} {n c : Nat} {xs : List α} (h : Sl tg T E w S A n c xs) {k : Nat} (hk : k ≤ n) : Sl tg T E w S A k c (xs.take k) := by
  obtain ⟨h1, h2, h3, h4⟩ := h
  refine ⟨by rw [List.length_take]; omega, by omega, h3, fun h0 => ?_⟩
  obtain ⟨b, off, e, hb, hl, ht, hc⟩ := h4 (by omega)
  refine ⟨b, off, e, hb, hl, ht, fun j y hj => hc j y ?_⟩
  rw [List.getElem?_take] at hj
  split at hj
  · exact hj
  · cases hj
end Go.Silo
namespace Go.Proofs.Ytipecejghioicaa
open Go.RowKit Go.Silo

set_option maxHeartbeats 2000000 in
theorem apart_c {tg : Bool} {T : TypeId} {S : Nat → Prop} {w : World} {A : Option Addr} {n c : Nat} {xs : List Slot} (h : Sl tg T slotE w S A n c xs) :
    Calls Try.prog 76 #[.slice A n c] w (RetV (.bool (apartB xs)) w) := by
  have HL := Lib.hid h.len
  have hcap : n ≤ 9223372036854775807 := Nat.le_trans h.le h.cap
  have hnc : n ≤ c := h.le
  have hcc : c ≤ 9223372036854775807 := h.cap
  go_enter Try.func76, Try.ntmps76
  go_wp2
  go_loopw [8] (fun i wr => ∃ k : Nat, k ≤ n ∧ i = .int .i64 k ∧ Below w.heap.size w wr ∧ Hid (∀ j, j < k → apartAt xs j = true)) (fun i _ => n - (intOf i).toNat)
  case atStart => exact ⟨0, Nat.zero_le _, rfl, Below.refl _ _, Lib.hid (fun j hj => by omega)⟩
  case round =>
    obtain ⟨k, hk, rfl, hB, he⟩ := hrel
    by_cases hlt : k < n
    · obtain ⟨b, off, rfl, hS, hbl, g1, g2, hc0, hc1, _⟩ := (h.all hB).slot_at hlt
      have hat : apartAt xs k = ((xs.getD k default).disk == -1 || !((xs.take k).any (sameDisk (xs.getD k default).disk))) := rfl
      have htk := (h.all hB).take hk
      generalize hx : xs.getD k default = x at *
      have HX := Lib.hid hx; clear hx
      have HB := Lib.hid hB; clear hB
      have HAT := Lib.hid hat; clear hat
      have HTK := Lib.hid htk; clear htk
      by_cases hd : x.disk = -1
      · have HF : Hid (∀ j, j < k + 1 → apartAt xs j = true) := Lib.hid (fun j hj => by
          by_cases hjk : j = k
          · subst hjk; rw [HAT.out, hd]; rfl
          · exact he.out j (by omega))
        go_wp2
        go_roundw
        case rel => exact ⟨k + 1, by omega, by go_num, HB.out.alloc HB.out.size _, HF⟩
        case measure => simp [intOf]; omega
      · have hcell : (wr.alloc (.cells #[.int .i64 x.disk, .int .i64 x.pos] 67)).cell? ⟨wr.heap.size, 0, none⟩ = some (.int .i64 x.disk) := (cell_of_row _ _ 0 _ _ _ (heap_alloc_new _ _)).trans rfl
        have hcon := ContainsFunc_apart (a := ⟨wr.heap.size, 0, none⟩) (HTK.out.all (w' := wr.alloc (.cells #[.int .i64 x.disk, .int .i64 x.pos] 67)) ((Below.refl _ _).alloc (Nat.le_refl _) _)) (sameDisk x.disk) (fun W y hW => apart1_c rfl (by have := hW.size; simp at this; show wr.heap.size < _; omega) ((hW.cell (p := ⟨wr.heap.size, 0, none⟩) (by simp)).trans hcell))
        have HCON := Lib.hid hcon; clear hcon hcell
        go_wp2_with fail
        refine HCON.out.mono ?_
        rintro e w2 ⟨rfl, hb2⟩
        have HB2 : Hid (Below w.heap.size w w2) := Lib.hid ((HB.out.alloc HB.out.size (.cells #[.int .i64 x.disk, .int .i64 x.pos] 67)).trans (hb2.mono (by have := HB.out.size; simp; omega))); clear hb2 HCON
        cases hany : (xs.take k).any (sameDisk x.disk) with
        | true =>
          have HF : Hid (apartB xs = false) := Lib.hid (apartB_false (i := k) (by have := HL.out; omega) (by rw [HAT.out, hany]; simp [hd]))
          clear hany
          go_wp2
          go_ret
          exact ⟨by rw [HF.out]; rfl, HB2.out⟩
        | false =>
          have HF : Hid (∀ j, j < k + 1 → apartAt xs j = true) := Lib.hid (fun j hj => by
            by_cases hjk : j = k
            · subst hjk; rw [HAT.out, hany]; simp
            · exact he.out j (by omega))
          clear hany
          go_wp2
          go_roundw
          case rel => exact ⟨k + 1, by omega, by go_num, HB2.out, HF⟩
          case measure => simp [intOf]; omega
    · have HF : Hid (apartB xs = true) := Lib.hid (apartB_true fun j hj => he.out j (by have := HL.out; omega))
      go_wp2
      go_ret
      exact ⟨by rw [HF.out]; rfl, hB⟩

set_option maxHeartbeats 4000000 in
theorem placeMay_c {tg : Bool} {S : Nat → Prop} {w : World} {A : Option Addr} {n c : Nat} {s : Shape} {x : Stripe} (_ : I64 s.K ∧ I64 s.M ∧ I64 s.size) (_ : I64 x.id ∧ I64 x.len ∧ I64 x.gen) (h : Sl tg 67 slotE w S A n c x.place) :
    Calls Try.prog 51 #[.agg #[.int .i64 s.K, .int .i64 s.M, .int .i64 s.size], .agg #[.int .i64 x.id, .int .i64 x.len, .int .i64 x.gen, .slice A n c]] w (RetV (.bool (stripeOk s x)) w) := by
  have HL := Lib.hid h.len
  have hcap : n ≤ 9223372036854775807 := Nat.le_trans h.le h.cap
  have hr : stripeOk s x = ((shapeOk s && numOk x.id && numOk x.gen && decide (1 ≤ x.len) && decide (x.len ≤ s.K * s.size) && decide ((n : Int) = s.K + s.M)) && (apartB x.place && !(x.place.any fun p => !slotOk p))) := by unfold stripeOk; rw [HL.out]
  generalize stripeOk s x = r at *
  have HR := Lib.hid hr; clear hr
  have hsh : shapeOk s = true → 1 ≤ s.K ∧ s.K ≤ 8 ∧ 0 ≤ s.M ∧ s.M ≤ 6 ∧ 1 ≤ s.size ∧ s.size ≤ 120 := fun h => by unfold shapeOk at h; exact of_decide_eq_true h
  have HSH := Lib.hid hsh; clear hsh
  have HAP := Lib.hid (fun W (hW : Below w.heap.size w W) => apart_c (h.all hW))
  have HCF := Lib.hid (fun W (hW : Below w.heap.size w W) => ContainsFunc_ok (h.all hW) (fun p => !slotOk p) (fun _ _ _ => placeMay1_c))
  clear h
  generalize apartB x.place = ap at *
  generalize (x.place.any fun p => !slotOk p) = cf at *
  have hrow0 : ((w.alloc (.cells #[.int .i64 s.K, .int .i64 s.M, .int .i64 s.size] 23)).alloc (.cells #[.int .i64 x.id, .int .i64 x.len, .int .i64 x.gen, .slice A n c] 69)).heap[w.heap.size]? = some (.cells #[.int .i64 s.K, .int .i64 s.M, .int .i64 s.size] 23 (0, 0)) := by rw [Below.heap_alloc _ _ _ (by simp)]; exact heap_alloc_new _ _
  have hrow1 : ((w.alloc (.cells #[.int .i64 s.K, .int .i64 s.M, .int .i64 s.size] 23)).alloc (.cells #[.int .i64 x.id, .int .i64 x.len, .int .i64 x.gen, .slice A n c] 69)).heap[w.heap.size + 1]? = some (.cells #[.int .i64 x.id, .int .i64 x.len, .int .i64 x.gen, .slice A n c] 69 (0, 0)) := by
    have := heap_alloc_new (w.alloc (.cells #[.int .i64 s.K, .int .i64 s.M, .int .i64 s.size] 23)) (.cells #[.int .i64 x.id, .int .i64 x.len, .int .i64 x.gen, .slice A n c] 69)
    rw [World.size_alloc] at this; exact this
  have hB0 : Below w.heap.size w ((w.alloc (.cells #[.int .i64 s.K, .int .i64 s.M, .int .i64 s.size] 23)).alloc (.cells #[.int .i64 x.id, .int .i64 x.len, .int .i64 x.gen, .slice A n c] 69)) := (by repeat' (first | (with_reducible exact Below.refl _ _) | (with_reducible refine Below.alloc ?_ ?_ _) | (with_reducible refine Below.drew ?_) | (with_reducible refine below_drewN ?_ _) | (with_reducible refine Below.setCell ?_ ?_ _) | (refine via ?_ (by with_reducible assumption) ?_) | (refine via ?_ (below_ext _ _) ?_) | go_size))
  have hz0 : ((w.alloc (.cells #[.int .i64 s.K, .int .i64 s.M, .int .i64 s.size] 23)).alloc (.cells #[.int .i64 x.id, .int .i64 x.len, .int .i64 x.gen, .slice A n c] 69)).heap.size = w.heap.size + 2 := by simp
  go_enter Try.func51, Try.ntmps51
  go_wp2_with fail
  refine codeMay_c.mono ?_
  generalize ((w.alloc (.cells #[.int .i64 s.K, .int .i64 s.M, .int .i64 s.size] 23)).alloc (.cells #[.int .i64 x.id, .int .i64 x.len, .int .i64 x.gen, .slice A n c] 69)) = W0 at *
  have CELLS : Hid (∀ W, Below W0.heap.size W0 W → W.cell? ⟨w.heap.size, 0, none⟩ = some (.int .i64 s.K) ∧ W.cell? ⟨w.heap.size, 1, none⟩ = some (.int .i64 s.M) ∧ W.cell? ⟨w.heap.size, 2, none⟩ = some (.int .i64 s.size) ∧
      W.cell? ⟨w.heap.size + 1, 0, none⟩ = some (.int .i64 x.id) ∧ W.cell? ⟨w.heap.size + 1, 1, none⟩ = some (.int .i64 x.len) ∧ W.cell? ⟨w.heap.size + 1, 2, none⟩ = some (.int .i64 x.gen) ∧ W.cell? ⟨w.heap.size + 1, 3, none⟩ = some (.slice A n c)) := Lib.hid (fun W hW => by
    have r0 := (hW.block w.heap.size (by omega)).trans hrow0
    have r1 := (hW.block (w.heap.size + 1) (by omega)).trans hrow1
    exact ⟨cell_of_row W _ 0 _ _ _ r0, cell_of_row W _ 1 _ _ _ r0, cell_of_row W _ 2 _ _ _ r0, cell_of_row W _ 0 _ _ _ r1, cell_of_row W _ 1 _ _ _ r1, cell_of_row W _ 2 _ _ _ r1, cell_of_row W _ 3 _ _ _ r1⟩)
  have HALL := Lib.hid (fun W (hW : Below W0.heap.size W0 W) => hB0.trans (hW.mono (by omega)))
  clear hrow0 hrow1 hB0 hz0
  rintro e w1 ⟨rfl, hb1⟩
  have HB1 := Lib.hid hb1; clear hb1
  obtain ⟨k0, k1, k2, x0, x1, x2, x3⟩ := CELLS.out w1 HB1.out
  cases hsh : shapeOk s with
  | false =>
    rw [hsh] at HR
    clear hsh
    go_wp2
    go_ret
    exact ⟨by rw [HR.out]; rfl, HALL.out _ HB1.out⟩
  | true =>
    rw [hsh] at HR
    obtain ⟨b1, b2, b3, b4, b5, b6⟩ := HSH.out hsh
    have hm1 : 0 ≤ s.K * s.size := Int.mul_nonneg (by omega) (by omega)
    have hm2 : s.K * s.size ≤ 960 := Int.le_trans (Int.mul_le_mul b2 b6 (by omega) (by omega)) (by decide)
    clear hsh HSH
    go_wp2_with fail
    refine number_c.mono ?_
    clear k0 k1 k2 x0 x1 x2 x3
    rintro e w2 ⟨rfl, hb2⟩
    have HB2 := Lib.hid (HB1.out.trans (hb2.mono HB1.out.size)); clear hb2
    obtain ⟨k0, k1, k2, x0, x1, x2, x3⟩ := CELLS.out w2 HB2.out
    cases hid : numOk x.id with
    | false =>
      rw [hid] at HR
      clear hid
      go_wp2
      go_ret
      exact ⟨by rw [HR.out]; rfl, HALL.out _ HB2.out⟩
    | true =>
      rw [hid] at HR
      clear hid
      go_wp2_with fail
      refine number_c.mono ?_
      clear k0 k1 k2 x0 x1 x2 x3
      rintro e w3 ⟨rfl, hb3⟩
      have HB3 := Lib.hid (HB2.out.trans (hb3.mono HB2.out.size)); clear hb3
      obtain ⟨k0, k1, k2, x0, x1, x2, x3⟩ := CELLS.out w3 HB3.out
      cases hgen : numOk x.gen with
      | false =>
        rw [hgen] at HR
        clear hgen
        go_wp2
        go_ret
        exact ⟨by rw [HR.out]; rfl, HALL.out _ HB3.out⟩
      | true =>
        rw [hgen] at HR
        clear hgen
        by_cases h1 : x.len < 1
        · have HF : Hid (r = false) := Lib.hid (by rw [HR.out, decide_eq_false (show ¬ 1 ≤ x.len by omega)]; rfl)
          go_wp2
          go_ret
          exact ⟨by rw [HF.out]; rfl, HALL.out _ HB3.out⟩
        · by_cases h2 : x.len ≤ s.K * s.size
          · by_cases h3 : (n : Int) = s.K + s.M
            · have HF : Hid (r = (ap && !cf)) := Lib.hid (by rw [HR.out, decide_eq_true (show 1 ≤ x.len by omega), decide_eq_true h2, decide_eq_true h3]; rfl)
              have hap := HAP.out w3 (HALL.out _ HB3.out)
              have hne : ((n : Int) != s.K + s.M) = false := by simp [h3]
              clear h3
              go_wp2_with fail
              refine hap.mono ?_
              clear hap k0 k1 k2 x0 x1 x2 x3
              rintro e w4 ⟨rfl, hb4⟩
              have HB4 := Lib.hid (HB3.out.trans (hb4.mono HB3.out.size)); clear hb4
              obtain ⟨k0, k1, k2, x0, x1, x2, x3⟩ := CELLS.out w4 HB4.out
              cases ap with
              | false =>
                go_wp2
                go_ret
                exact ⟨by rw [HF.out]; rfl, HALL.out _ HB4.out⟩
              | true =>
                have hcf := HCF.out w4 (HALL.out _ HB4.out)
                go_wp2_with fail
                refine hcf.mono ?_
                clear hcf k0 k1 k2 x0 x1 x2 x3
                rintro e w5 ⟨rfl, hb5⟩
                have HB5 := Lib.hid (HB4.out.trans (hb5.mono HB4.out.size)); clear hb5
                go_wp2
                go_ret
                exact ⟨by rw [HF.out]; rfl, HALL.out _ HB5.out⟩
            · have HF : Hid (r = false) := Lib.hid (by rw [HR.out, decide_eq_false h3]; simp)
              have hne : ((n : Int) != s.K + s.M) = true := by simp [h3]
              clear h3
              go_wp2
              go_ret
              exact ⟨by rw [HF.out]; rfl, HALL.out _ HB3.out⟩
          · have HF : Hid (r = false) := Lib.hid (by rw [HR.out, decide_eq_false h2]; simp)
            go_wp2
            go_ret
            exact ⟨by rw [HF.out]; rfl, HALL.out _ HB3.out⟩

end Go.Proofs.Ytipecejghioicaa
