/- Which stripes may be: the page's answer (siloref4.Shape, siloref16.Stripe). -/
import Derived.Test.YtjeecdoffoahkaaE2r
import Derived.Deep.Cut
namespace Go.Proofs.Ytjeecdoffoahkaa
open Go.RowKit Go.Silo

theorem refShape_c {w : World} {s : Shape} : Calls Try.prog 10 #[.agg #[.int .i64 s.K, .int .i64 s.M, .int .i64 s.size]] w (RetV (.bool (shapeOk s)) w) := by
  have hr : shapeOk s = (decide (1 ≤ s.K ∧ s.K ≤ 8) && (decide (0 ≤ s.M ∧ s.M ≤ 6) && decide (1 ≤ s.size ∧ s.size ≤ 120))) := by
    unfold shapeOk
    rw [Bool.eq_iff_iff]
    simp
    omega
  generalize shapeOk s = r at *
  have HR := Lib.hid hr; clear hr
  have hrow := heap_alloc_new w (.cells #[.int .i64 s.K, .int .i64 s.M, .int .i64 s.size] 23)
  have hB : Below w.heap.size w (w.alloc (.cells #[.int .i64 s.K, .int .i64 s.M, .int .i64 s.size] 23)) := (by repeat' (first | (with_reducible exact Below.refl _ _) | (with_reducible refine Below.alloc ?_ ?_ _) | (with_reducible refine Below.drew ?_) | (with_reducible refine below_drewN ?_ _) | (with_reducible refine Below.setCell ?_ ?_ _) | (refine via ?_ (by with_reducible assumption) ?_) | (refine via ?_ (below_ext _ _) ?_) | go_size))
  have hz : w.heap.size < (w.alloc (.cells #[.int .i64 s.K, .int .i64 s.M, .int .i64 s.size] 23)).heap.size := by simp
  go_enter Try.func10, Try.ntmps10
  go_upto_region 1 with (fail)
  generalize (w.alloc (.cells #[.int .i64 s.K, .int .i64 s.M, .int .i64 s.size] 23)) = W0 at *
  have CELLS : Hid (∀ W, Below W0.heap.size W0 W → W.cell? ⟨w.heap.size, 0, none⟩ = some (.int .i64 s.K) ∧ W.cell? ⟨w.heap.size, 1, none⟩ = some (.int .i64 s.M) ∧ W.cell? ⟨w.heap.size, 2, none⟩ = some (.int .i64 s.size)) := Lib.hid (fun W hW => by
    have r := (hW.block _ hz).trans hrow
    exact ⟨cell_of_row W _ 0 _ _ _ r, cell_of_row W _ 1 _ _ _ r, cell_of_row W _ 2 _ _ _ r⟩)
  have HAL := Lib.hid (fun W (hW : Below W0.heap.size W0 W) => hB.trans (hW.mono (Nat.le_of_lt hz))); clear hB hrow
  obtain ⟨k0, k1, k2⟩ := CELLS.out W0 (Below.refl _ _)
  go_wp2_with fail
  refine Between_c.mono ?_
  clear k0 k1 k2
  rintro e w1 ⟨rfl, hb1⟩
  have HB1 := Lib.hid hb1; clear hb1
  obtain ⟨k0, k1, k2⟩ := CELLS.out w1 HB1.out
  cases h1 : decide (1 ≤ s.K ∧ s.K ≤ 8) with
  | false =>
    rw [h1] at HR
    clear h1
    go_wp2
    go_ret
    exact ⟨by rw [HR.out]; rfl, HAL.out _ HB1.out⟩
  | true =>
    rw [h1] at HR
    clear h1
    go_wp2_with fail
    refine Num_c.mono ?_
    clear k0 k1 k2
    rintro e w2 ⟨rfl, hb2⟩
    have HB2 := Lib.hid (HB1.out.trans (hb2.mono HB1.out.size)); clear hb2
    obtain ⟨k0, k1, k2⟩ := CELLS.out w2 HB2.out
    cases h2 : decide (0 ≤ s.M ∧ s.M ≤ 6) with
    | false =>
      rw [h2] at HR
      clear h2
      go_wp2
      go_ret
      exact ⟨by rw [HR.out]; rfl, HAL.out _ HB2.out⟩
    | true =>
      rw [h2] at HR
      clear h2
      go_wp2_with fail
      refine Between_c.mono ?_
      clear k0 k1 k2
      rintro e w3 ⟨rfl, hb3⟩
      have HB3 := Lib.hid (HB2.out.trans (hb3.mono HB2.out.size)); clear hb3
      generalize decide (1 ≤ s.size ∧ s.size ≤ 120) = b at *
      go_wp2
      go_ret
      exact ⟨by rw [HR.out]; rfl, HAL.out _ HB3.out⟩

/-- Slot number i may lie where it does. -/
def pageAt (l : List Slot) (i : Nat) : Bool := slotOk (l.getD i default) && apartAt l i
theorem page_true {l : List Slot} (h : ∀ i, i < l.length → pageAt l i = true) : (apartB l && !(l.any fun p => !slotOk p)) = true := by
  have h1 : apartB l = true := apartB_true fun i hi => by have := h i hi; unfold pageAt at this; simp only [Bool.and_eq_true] at this; exact this.2
  have h2 : (l.any fun p => !slotOk p) = false := by
    rw [List.any_eq_false]
    intro p hp
    obtain ⟨i, hi⟩ := List.mem_iff_getElem?.1 hp
    have hil := (List.getElem?_eq_some_iff.1 hi).1
    have := h i hil
    unfold pageAt at this
    simp only [Bool.and_eq_true] at this
    rw [List.getD_eq_getElem?_getD, hi] at this
    have h3 : slotOk p = true := this.1
    simp [h3]
  rw [h1, h2]; rfl
theorem page_false {l : List Slot} {i : Nat} (hi : i < l.length) (h : pageAt l i = false) : (apartB l && !(l.any fun p => !slotOk p)) = false := by
  unfold pageAt at h
  cases hs : slotOk (l.getD i default) with
  | false =>
    have : (l.any fun p => !slotOk p) = true := List.any_eq_true.2 ⟨l.getD i default, getD_mem hi, by rw [hs]; rfl⟩
    rw [this]; simp
  | true =>
    rw [hs, Bool.true_and] at h
    rw [apartB_false hi h]; rfl

set_option maxRecDepth 100000 in
set_option maxHeartbeats 8000000 in
theorem refStripe_c {tg : Bool} {S : Nat → Prop} {w : World} {A : Option Addr} {n c : Nat} {s : Shape} {x : Stripe} (h : Sl tg 112 slotE w S A n c x.place) :
    Calls Try.prog 49 #[.agg #[.int .i64 s.K, .int .i64 s.M, .int .i64 s.size], .agg #[.int .i64 x.id, .int .i64 x.len, .int .i64 x.gen, .slice A n c]] w (RetV (.bool (stripeOk s x)) w) := by
  have HL := Lib.hid h.len
  have hcap : n ≤ 9223372036854775807 := Nat.le_trans h.le h.cap
  have hr : stripeOk s x = ((shapeOk s && (numOk x.id && (numOk x.gen && (decide (1 ≤ x.len ∧ x.len ≤ s.K * s.size) && decide ((n : Int) = s.K + s.M))))) && (apartB x.place && !(x.place.any fun p => !slotOk p))) := by
    unfold stripeOk
    rw [HL.out, Bool.decide_and]
    simp only [Bool.and_assoc]
  have hsh : shapeOk s = true → 1 ≤ s.K ∧ s.K ≤ 8 ∧ 0 ≤ s.M ∧ s.M ≤ 6 ∧ 1 ≤ s.size ∧ s.size ≤ 120 := fun h => by unfold shapeOk at h; exact of_decide_eq_true h
  have HSH := Lib.hid hsh; clear hsh
  have HPT := Lib.hid (@page_true x.place)
  have HPF := Lib.hid (fun i => @page_false x.place i)
  generalize (apartB x.place && !(x.place.any fun p => !slotOk p)) = pg at *
  generalize stripeOk s x = r at *
  have HR := Lib.hid hr; clear hr
  have HP := Lib.hid (fun W (hW : Below w.heap.size w W) => h.all hW); clear h
  have hrow0 : ((w.alloc (.cells #[.int .i64 s.K, .int .i64 s.M, .int .i64 s.size] 23)).alloc (.cells #[.int .i64 x.id, .int .i64 x.len, .int .i64 x.gen, .slice A n c] 97)).heap[w.heap.size]? = some (.cells #[.int .i64 s.K, .int .i64 s.M, .int .i64 s.size] 23 (0, 0)) := by rw [Below.heap_alloc _ _ _ (by simp)]; exact heap_alloc_new _ _
  have hrow1 : ((w.alloc (.cells #[.int .i64 s.K, .int .i64 s.M, .int .i64 s.size] 23)).alloc (.cells #[.int .i64 x.id, .int .i64 x.len, .int .i64 x.gen, .slice A n c] 97)).heap[w.heap.size + 1]? = some (.cells #[.int .i64 x.id, .int .i64 x.len, .int .i64 x.gen, .slice A n c] 97 (0, 0)) := by
    have := heap_alloc_new (w.alloc (.cells #[.int .i64 s.K, .int .i64 s.M, .int .i64 s.size] 23)) (.cells #[.int .i64 x.id, .int .i64 x.len, .int .i64 x.gen, .slice A n c] 97)
    rw [World.size_alloc] at this; exact this
  have hB0 : Below w.heap.size w ((w.alloc (.cells #[.int .i64 s.K, .int .i64 s.M, .int .i64 s.size] 23)).alloc (.cells #[.int .i64 x.id, .int .i64 x.len, .int .i64 x.gen, .slice A n c] 97)) := (by repeat' (first | (with_reducible exact Below.refl _ _) | (with_reducible refine Below.alloc ?_ ?_ _) | (with_reducible refine Below.drew ?_) | (with_reducible refine below_drewN ?_ _) | (with_reducible refine Below.setCell ?_ ?_ _) | (refine via ?_ (by with_reducible assumption) ?_) | (refine via ?_ (below_ext _ _) ?_) | go_size))
  have hz0 : ((w.alloc (.cells #[.int .i64 s.K, .int .i64 s.M, .int .i64 s.size] 23)).alloc (.cells #[.int .i64 x.id, .int .i64 x.len, .int .i64 x.gen, .slice A n c] 97)).heap.size = w.heap.size + 2 := by simp
  go_enter Try.func49, Try.ntmps49
  go_upto_region 1 with (fail)
  generalize ((w.alloc (.cells #[.int .i64 s.K, .int .i64 s.M, .int .i64 s.size] 23)).alloc (.cells #[.int .i64 x.id, .int .i64 x.len, .int .i64 x.gen, .slice A n c] 97)) = W0 at *
  have CELLS : Hid (∀ W, Below W0.heap.size W0 W → W.cell? ⟨w.heap.size, 0, none⟩ = some (.int .i64 s.K) ∧ W.cell? ⟨w.heap.size, 1, none⟩ = some (.int .i64 s.M) ∧ W.cell? ⟨w.heap.size, 2, none⟩ = some (.int .i64 s.size) ∧
      W.cell? ⟨w.heap.size + 1, 0, none⟩ = some (.int .i64 x.id) ∧ W.cell? ⟨w.heap.size + 1, 1, none⟩ = some (.int .i64 x.len) ∧ W.cell? ⟨w.heap.size + 1, 2, none⟩ = some (.int .i64 x.gen) ∧ W.cell? ⟨w.heap.size + 1, 3, none⟩ = some (.slice A n c)) := Lib.hid (fun W hW => by
    have r0 := (hW.block w.heap.size (by omega)).trans hrow0
    have r1 := (hW.block (w.heap.size + 1) (by omega)).trans hrow1
    exact ⟨cell_of_row W _ 0 _ _ _ r0, cell_of_row W _ 1 _ _ _ r0, cell_of_row W _ 2 _ _ _ r0, cell_of_row W _ 0 _ _ _ r1, cell_of_row W _ 1 _ _ _ r1, cell_of_row W _ 2 _ _ _ r1, cell_of_row W _ 3 _ _ _ r1⟩)
  have HALL := Lib.hid (fun W (hW : Below W0.heap.size W0 W) => hB0.trans (hW.mono (by omega)))
  have hz1 : w.heap.size + 1 < W0.heap.size := by omega
  clear hrow0 hrow1 hB0 hz0
  obtain ⟨k0, k1, k2, x0, x1, x2, x3⟩ := CELLS.out W0 (Below.refl _ _)
  go_wp2_with fail
  refine refShape_c.mono ?_
  clear k0 k1 k2 x0 x1 x2 x3
  rintro e w1 ⟨rfl, hb1⟩
  have HB1 := Lib.hid hb1; clear hb1
  obtain ⟨k0, k1, k2, x0, x1, x2, x3⟩ := CELLS.out w1 HB1.out
  cases hsh : shapeOk s with
  | false =>
    rw [hsh] at HR
    clear hsh
    go_wp2
    go_ret
    exact ⟨by rw [HR.out]; rfl, HALL.out _ HB1.out⟩
  | true =>
    rw [hsh] at HR
    obtain ⟨b1, b2, b3, b4, b5, b6⟩ := HSH.out hsh
    have hm1 : 0 ≤ s.K * s.size := Int.mul_nonneg (by omega) (by omega)
    have hm2 : s.K * s.size ≤ 960 := Int.le_trans (Int.mul_le_mul b2 b6 (by omega) (by omega)) (by decide)
    clear hsh HSH
    go_wp2_with fail
    refine Num_c.mono ?_
    clear k0 k1 k2 x0 x1 x2 x3
    rintro e w2 ⟨rfl, hb2⟩
    rw [show decide (0 ≤ x.id ∧ x.id ≤ 1073741824) = numOk x.id from rfl]
    have HB2 := Lib.hid (HB1.out.trans (hb2.mono HB1.out.size)); clear hb2
    obtain ⟨k0, k1, k2, x0, x1, x2, x3⟩ := CELLS.out w2 HB2.out
    cases hid : numOk x.id with
    | false =>
      rw [hid] at HR
      clear hid
      go_wp2
      go_ret
      exact ⟨by rw [HR.out]; rfl, HALL.out _ HB2.out⟩
    | true =>
      rw [hid] at HR
      clear hid
      go_wp2_with fail
      refine Num_c.mono ?_
      clear k0 k1 k2 x0 x1 x2 x3
      rintro e w3 ⟨rfl, hb3⟩
      rw [show decide (0 ≤ x.gen ∧ x.gen ≤ 1073741824) = numOk x.gen from rfl]
      have HB3 := Lib.hid (HB2.out.trans (hb3.mono HB2.out.size)); clear hb3
      obtain ⟨k0, k1, k2, x0, x1, x2, x3⟩ := CELLS.out w3 HB3.out
      cases hgen : numOk x.gen with
      | false =>
        rw [hgen] at HR
        clear hgen
        go_wp2
        go_ret
        exact ⟨by rw [HR.out]; rfl, HALL.out _ HB3.out⟩
      | true =>
        rw [hgen] at HR
        clear hgen
        go_wp2_with fail
        refine Between_c.mono ?_
        clear k0 k1 k2 x0 x1 x2 x3
        rintro e w4 ⟨rfl, hb4⟩
        have HB4 := Lib.hid (HB3.out.trans (hb4.mono HB3.out.size)); clear hb4
        obtain ⟨k0, k1, k2, x0, x1, x2, x3⟩ := CELLS.out w4 HB4.out
        cases h1 : decide (1 ≤ x.len ∧ x.len ≤ s.K * s.size) with
        | false =>
          rw [h1] at HR
          clear h1
          go_wp2
          go_ret
          exact ⟨by rw [HR.out]; rfl, HALL.out _ HB4.out⟩
        | true =>
          rw [h1] at HR
          clear h1
          by_cases h3 : (n : Int) = s.K + s.M
          · have hne : ((n : Int) != s.K + s.M) = false := by simp [h3]
            have HF : Hid (r = pg) := Lib.hid (by rw [HR.out, decide_eq_true h3]; rfl)
            clear h3 HR
            go_wp2_with fail
            clear k0 k1 k2 x0 x1 x2 x3 hne
            go_loopw [5] (fun i wr => ∃ k : Nat, k ≤ n ∧ i = .int .i64 k ∧ Hid (Below W0.heap.size W0 wr) ∧ Hid (∀ j, j < k → pageAt x.place j = true)) (fun i _ => n - (intOf i).toNat)
            case atStart => exact ⟨0, Nat.zero_le _, rfl, HB4, Lib.hid (fun j hj => by omega)⟩
            case round =>
              rename World => wo
              obtain ⟨k, hk, rfl, HB, HA⟩ := hrel
              clear HB1 HB2 HB3 HB4
              obtain ⟨k0, k1, k2, x0, x1, x2, x3⟩ := CELLS.out wo HB.out
              have hzo : w.heap.size + 1 < wo.heap.size := Nat.lt_of_lt_of_le hz1 HB.out.size
              by_cases hlt : k < n
              · obtain ⟨b, off, rfl, _, hbl, g1, g2, hc0, hc1, _⟩ := (HP.out wo (HALL.out _ HB.out)).slot_at hlt
                have hat : pageAt x.place k = (slotOk (x.place.getD k default) && ((x.place.getD k default).disk == -1 || !((x.place.take k).any (sameDisk (x.place.getD k default).disk)))) := rfl
                generalize hp : x.place.getD k default = p at *
                have HAT := Lib.hid hat; clear hat
                have HPP := Lib.hid hp; clear hp
                by_cases hd : p.disk = -1
                · by_cases hp0 : p.pos = 0
                  · have HF2 : Hid (∀ j, j < k + 1 → pageAt x.place j = true) := Lib.hid (fun j hj => by
                      by_cases hjk : j = k
                      · subst hjk; rw [HAT.out]; unfold slotOk; rw [hd, hp0]; rfl
                      · exact HA.out j (by omega))
                    rw [hd] at hc0
                    rw [hp0] at hc1
                    clear hd hp0 g1 g2
                    go_wp2
                    exact ⟨⟨k + 1, by omega, by go_num, Lib.hid (HB.out.alloc HB.out.size _), HF2⟩, by simp [intOf]; omega⟩
                  · have HFF : Hid (pg = false) := Lib.hid (HPF.out k (by have := HL.out; omega) (by
                      have h3 : slotOk p = false := by unfold slotOk; exact decide_eq_false (by omega)
                      rw [HAT.out, h3]; rfl))
                    have hp1 : (p.pos == 0) = false := by simpa using hp0
                    rw [hd] at hc0
                    clear hd hp0 g1 g2
                    go_wp2_with fail
                    refine Num_c.mono ?_
                    rintro e w5 ⟨rfl, hb5⟩
                    rw [show decide ((0 : Int) ≤ -1 ∧ (-1 : Int) ≤ 11) = false from by decide]
                    have HB5 := Lib.hid ((HB.out.alloc HB.out.size (.cells #[.int .i64 (-1), .int .i64 p.pos] 112)).trans (hb5.mono (by have := HB.out.size; simp; omega))); clear hb5
                    go_wp2
                    go_ret
                    exact ⟨by rw [HF.out, HFF.out]; rfl, HALL.out _ HB5.out⟩
                · have hd1 : (p.disk == -1) = false := by simpa using hd
                  have hrowp := heap_alloc_new wo (.cells #[.int .i64 p.disk, .int .i64 p.pos] 112)
                  have hBp : Below wo.heap.size wo (wo.alloc (.cells #[.int .i64 p.disk, .int .i64 p.pos] 112)) := (Below.refl _ _).alloc (Nat.le_refl _) _
                  have hzp : wo.heap.size < (wo.alloc (.cells #[.int .i64 p.disk, .int .i64 p.pos] 112)).heap.size := by simp
                  go_upto_region 7 with (fail)
                  clear k0 k1 k2 x0 x1 x2 x3 hc0 hc1
                  generalize (wo.alloc (.cells #[.int .i64 p.disk, .int .i64 p.pos] 112)) = W1 at *
                  have HBo := Lib.hid (HB.out.trans (hBp.mono HB.out.size))
                  have PC : Hid (∀ W, Below W1.heap.size W1 W → W.cell? ⟨wo.heap.size, 0, none⟩ = some (.int .i64 p.disk) ∧ W.cell? ⟨wo.heap.size, 1, none⟩ = some (.int .i64 p.pos)) := Lib.hid (fun W hW => by
                    have r := (hW.block _ hzp).trans hrowp
                    exact ⟨cell_of_row W _ 0 _ _ _ r, cell_of_row W _ 1 _ _ _ r⟩)
                  clear hrowp hBp
                  obtain ⟨z0, z1⟩ := PC.out W1 (Below.refl _ _)
                  go_wp2_with fail
                  refine Num_c.mono ?_
                  clear z0 z1
                  rintro e w5 ⟨rfl, hb5⟩
                  obtain ⟨z0, z1⟩ := PC.out w5 hb5
                  have HB5 := Lib.hid hb5; clear hb5
                  cases hn1 : decide (0 ≤ p.disk ∧ p.disk ≤ 11) with
                  | false =>
                    have HFF : Hid (pg = false) := Lib.hid (HPF.out k (by have := HL.out; omega) (by
                      have h3 : slotOk p = false := by
                        have := of_decide_eq_false hn1
                        unfold slotOk; exact decide_eq_false (by omega)
                      rw [HAT.out, h3]; rfl))
                    clear hn1
                    go_wp2
                    go_ret
                    exact ⟨by rw [HF.out, HFF.out]; rfl, HALL.out _ (HBo.out.trans (HB5.out.mono HBo.out.size))⟩
                  | true =>
                    have HN1 := Lib.hid (of_decide_eq_true hn1); clear hn1
                    go_wp2_with fail
                    refine Num_c.mono ?_
                    clear z0 z1
                    rintro e w6 ⟨rfl, hb6⟩
                    have HB6 := Lib.hid (HB5.out.trans (hb6.mono HB5.out.size)); clear hb6
                    cases hn2 : decide (0 ≤ p.pos ∧ p.pos ≤ 63) with
                    | false =>
                      have HFF : Hid (pg = false) := Lib.hid (HPF.out k (by have := HL.out; omega) (by
                        have h3 : slotOk p = false := by
                          have := of_decide_eq_false hn2
                          unfold slotOk; exact decide_eq_false (by omega)
                        rw [HAT.out, h3]; rfl))
                      clear hn2
                      go_wp2
                      go_ret
                      exact ⟨by rw [HF.out, HFF.out]; rfl, HALL.out _ (HBo.out.trans (HB6.out.mono HBo.out.size))⟩
                    | true =>
                      have HSO : Hid (slotOk p = true) := Lib.hid (by
                        have h4 := of_decide_eq_true hn2
                        have h5 := HN1.out
                        unfold slotOk; exact decide_eq_true (by omega))
                      clear hn2
                      go_wp2_with fail
                      go_loopw [7] (fun q wr => ∃ j : Nat, j ≤ k ∧ q = .int .i64 j ∧ Hid (Below W1.heap.size W1 wr) ∧ Hid (∀ i, i < j → sameDisk p.disk (x.place.getD i default) = false)) (fun q _ => k - (intOf q).toNat)
                      case atStart => exact ⟨0, Nat.zero_le _, rfl, HB6, Lib.hid (fun i hi => by omega)⟩
                      case round =>
                        obtain ⟨j, hj, rfl, HBi, HJ⟩ := hrel
                        have hBt := HBo.out.trans (HBi.out.mono HBo.out.size)
                        obtain ⟨k0, k1, k2, x0, x1, x2, x3⟩ := CELLS.out wr hBt
                        obtain ⟨z0, z1⟩ := PC.out wr HBi.out
                        have hzw : w.heap.size + 1 < wr.heap.size := Nat.lt_of_lt_of_le hz1 hBt.size
                        have hzq : wo.heap.size < wr.heap.size := Nat.lt_of_lt_of_le hzp HBi.out.size
                        by_cases hjl : j < k
                        · obtain ⟨b', off', he, _, hbl', _, _, hd0, _, _⟩ := (HP.out wr (HALL.out _ hBt)).slot_at (show j < n by omega)
                          injection he with he; injection he with he1 he2 _; subst he1; subst he2
                          have HBT := Lib.hid hBt; clear hBt
                          generalize hq : (x.place.getD j default).disk = dj at *
                          have HQ := Lib.hid hq; clear hq
                          by_cases heq : dj = p.disk
                          · have hb : (dj == p.disk) = true := by simpa using heq
                            have HFF : Hid (pg = false) := Lib.hid (HPF.out k (by have := HL.out; omega) (by
                              have hany : (x.place.take k).any (sameDisk p.disk) = true := List.any_eq_true.2 ⟨x.place.getD j default, by
                                have hl : j < (x.place.take k).length := by rw [List.length_take]; have := HL.out; omega
                                have := getD_mem (d := default) hl
                                rw [List.getD_eq_getElem?_getD, List.getElem?_take, if_pos hjl, ← List.getD_eq_getElem?_getD] at this
                                exact this, by unfold sameDisk; rw [HQ.out]; exact hb⟩
                              rw [HAT.out, HSO.out, hany, hd1]; rfl))
                            clear heq
                            go_wp2_with fail
                            have hext := cell_ext wr
                            refine region_ext (by kernel_rfl) (by kernel_rfl) ?_
                            repeat (go_big_quiet_step (fail))
                            refine wpQuiet_nil ?_
                            rintro _ ⟨X, rfl⟩
                            have HBX := Lib.hid (HBT.out.trans ((below_ext wr X).mono HBT.out.size))
                            clear hext k0 k1 k2 x0 x1 x2 x3 z0 z1 hd0
                            generalize wr.ext X = w8 at *
                            go_wp2
                            go_ret
                            exact ⟨by rw [HF.out, HFF.out]; rfl, HALL.out _ HBX.out⟩
                          · have hb : (dj == p.disk) = false := by simpa using heq
                            have HJ2 : Hid (∀ i, i < j + 1 → sameDisk p.disk (x.place.getD i default) = false) := Lib.hid (fun i hi => by
                              by_cases hij : i = j
                              · subst hij; unfold sameDisk; rw [HQ.out]; exact hb
                              · exact HJ.out i (by omega))
                            clear heq
                            go_wp2_with fail
                            have hext := cell_ext wr
                            refine region_ext (by kernel_rfl) (by kernel_rfl) ?_
                            repeat (go_big_quiet_step (fail))
                            refine wpQuiet_nil ?_
                            rintro _ ⟨X, rfl⟩
                            have HBX := Lib.hid (HBi.out.trans ((below_ext wr X).mono HBi.out.size))
                            clear hext k0 k1 k2 x0 x1 x2 x3 z0 z1 hd0
                            generalize wr.ext X = w8 at *
                            go_wp2
                            exact ⟨⟨j + 1, by omega, by go_num, HBX, HJ2⟩, by simp [intOf]; omega⟩
                        · have HF2 : Hid (∀ j, j < k + 1 → pageAt x.place j = true) := Lib.hid (fun i hi => by
                            by_cases hik : i = k
                            · subst hik
                              have hany : (x.place.take i).any (sameDisk p.disk) = false := by
                                rw [List.any_eq_false]
                                intro y hy
                                obtain ⟨q, hq⟩ := List.mem_iff_getElem?.1 hy
                                rw [List.getElem?_take] at hq
                                split at hq
                                · rename_i hqi
                                  have := HJ.out q (by omega)
                                  rw [List.getD_eq_getElem?_getD, hq] at this
                                  simpa using this
                                · cases hq
                              rw [HAT.out, HSO.out, hany]; simp
                            · exact HA.out i (by omega))
                          have HBT := Lib.hid hBt; clear hBt
                          clear k0 k1 k2 x0 x1 x2 x3 z0 z1
                          go_wp2
                          exact ⟨⟨k + 1, by omega, by go_num, HBT, HF2⟩, by simp [intOf]; omega⟩
              · have HFF : Hid (pg = true) := Lib.hid (HPT.out fun i hi => HA.out i (by have := HL.out; omega))
                go_wp2
                go_ret
                exact ⟨by rw [HF.out, HFF.out]; rfl, HALL.out _ HB.out⟩
          · have hne : ((n : Int) != s.K + s.M) = true := by simp [h3]
            have HF : Hid (r = false) := Lib.hid (by rw [HR.out, decide_eq_false h3]; rfl)
            clear h3 HR
            go_wp2
            go_ret
            exact ⟨by rw [HF.out]; rfl, HALL.out _ HB4.out⟩
end Go.Proofs.Ytjeecdoffoahkaa
