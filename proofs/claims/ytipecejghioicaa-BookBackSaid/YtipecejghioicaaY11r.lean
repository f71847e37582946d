/- record.May, kind by kind. Printed by gen_y11.py. -/
import Derived.Test.YtipecejghioicaaY10r
import Derived.Lib.Bytes
namespace Go.Proofs.Ytipecejghioicaa
open Go.RowKit Go.Silo
/-- May a record be? -/
def recOk (r : Record) : Bool := decide (1 ≤ r.kind ∧ r.kind ≤ 8) &&
  ((!hasF r.kind 105 || numOk r.id) && ((!hasF r.kind 110 || decide (1 ≤ r.name.size ∧ r.name.size ≤ 40)) && ((!hasF r.kind 100 || decide (r.digest.size = 32)) && ((!hasF r.kind 108 || listOk r.kind r.list) && ((!hasF r.kind 115 || placesOk r.slots) &&
   ((hasF r.kind 105 || decide (r.id = 0)) && ((hasF r.kind 110 || decide (r.name = ByteArray.empty)) && ((hasF r.kind 100 || decide (r.digest = ByteArray.empty)) && ((hasF r.kind 108 || decide (r.list.length = 0)) && (hasF r.kind 115 || decide (r.slots.length = 0)))))))))))
theorem str_nil (x : ByteArray) : x.toList = [] ↔ x = ByteArray.empty := by
  rw [Lib.toList_data]
  constructor
  · intro h
    cases x with
    | mk d => simp only [ByteArray.empty, ByteArray.emptyWithCapacity] at *; congr 1; exact Array.toList_eq_nil_iff.1 h
  · intro h; subst h; rfl
set_option maxRecDepth 100000 in
set_option maxHeartbeats 8000000 in
theorem recMay1_c {tg : Bool} {S : Nat → Prop} {w : World} {A4 A5 : Option Addr} {n4 c4 n5 c5 : Nat} {id : Int} {nm dg : ByteArray} {li : List Int} {sl : List Slot} (hl : Sl tg 3 intE w S A4 n4 c4 li) (hs : Sl tg 67 slotE w S A5 n5 c5 sl) :
    Calls Try.prog 17 #[.agg #[.int .i64 1, .int .i64 id, .string nm, .string dg, .slice A4 n4 c4, .slice A5 n5 c5]] w (RetV (.bool (recOk ⟨1, id, nm, dg, li, sl⟩)) w) := by
  have HLN := Lib.hid hl.len
  have HSN := Lib.hid hs.len
  have hcap4 : n4 ≤ 9223372036854775807 := Nat.le_trans hl.le hl.cap
  have hcap5 : n5 ≤ 9223372036854775807 := Nat.le_trans hs.le hs.cap
  have HL := Lib.hid (fun W (hW : Below w.heap.size w W) => list_c (kd := 1) (id := id) (nm := nm) (dg := dg) (B := A5) (n5 := n5) (c5 := c5) (hl.all hW))
  have HS := Lib.hid (fun W (hW : Below w.heap.size w W) => places_c (hs.all hW))
  obtain ⟨R, hR⟩ : ∃ R, R = recOk ⟨1, id, nm, dg, li, sl⟩ := ⟨_, rfl⟩
  rw [← hR]
  have HR : Hid (R = (numOk id && (placesOk sl && (decide (nm = ByteArray.empty) && (decide (dg = ByteArray.empty) && (decide (n4 = 0))))))) := Lib.hid (by
    rw [hR]; unfold recOk
    simp only [show hasF 1 105 = true by decide, show hasF 1 110 = false by decide, show hasF 1 100 = false by decide, show hasF 1 108 = false by decide, show hasF 1 115 = true by decide, HLN.out, HSN.out]
    simp)
  clear hR hl hs
  obtain ⟨q1, hq1⟩ : ∃ q1, q1 = numOk id := ⟨_, rfl⟩
  rw [← hq1] at HR
  have HQ1 := Lib.hid hq1; clear hq1
  obtain ⟨q5, hq5⟩ : ∃ q5, q5 = placesOk sl := ⟨_, rfl⟩
  rw [← hq5] at HR
  have HQ5 := Lib.hid hq5; clear hq5
  obtain ⟨p2, hp2⟩ : ∃ p2, p2 = decide (nm = ByteArray.empty) := ⟨_, rfl⟩
  rw [← hp2] at HR
  have HP2 := Lib.hid hp2; clear hp2
  obtain ⟨p3, hp3⟩ : ∃ p3, p3 = decide (dg = ByteArray.empty) := ⟨_, rfl⟩
  rw [← hp3] at HR
  have HP3 := Lib.hid hp3; clear hp3
  obtain ⟨p4, hp4⟩ : ∃ p4, p4 = decide (n4 = 0) := ⟨_, rfl⟩
  rw [← hp4] at HR
  have HP4 := Lib.hid hp4; clear hp4
  go_enter Try.func17, Try.ntmps17
  go_wp2_with fail
  refine (has_c (k := 1) (c := 105)).mono ?_
  rw [show hasF 1 105 = true by decide]
  rintro e w1 ⟨rfl, hb1⟩
  (obtain ⟨hc_w1, hf_w1⟩ := bcell hb1; have z_w1_0 : w.heap.size < w1.heap.size := (by have := hb1.size; first | omega | (simp at this; omega)))
  go_wp2_with fail
  refine (recNumber_c (n := id)).mono ?_
  rw [← HQ1.out]
  rintro e w2 ⟨rfl, hb2⟩
  (obtain ⟨hc_w2, hf_w2⟩ := bcell hb2; have z_w2_0 : w.heap.size < w2.heap.size := (by have := hb2.size; first | omega | (simp at this; omega)))
  cases q1 with
  | false =>
    go_wp2
    go_ret
    exact ⟨by rw [HR.out]; rfl, (by repeat' (first | (with_reducible exact Below.refl _ _) | (with_reducible refine Below.alloc ?_ ?_ _) | (with_reducible refine Below.drew ?_) | (with_reducible refine below_drewN ?_ _) | (with_reducible refine Below.setCell ?_ ?_ _) | (refine via ?_ (by with_reducible assumption) ?_) | (refine via ?_ (below_ext _ _) ?_) | go_size))⟩
  | true =>
    go_wp2_with fail
    refine (has_c (k := 1) (c := 110)).mono ?_
    rw [show hasF 1 110 = false by decide]
    rintro e w3 ⟨rfl, hb3⟩
    (obtain ⟨hc_w3, hf_w3⟩ := bcell hb3; have z_w3_0 : w.heap.size < w3.heap.size := (by have := hb3.size; first | omega | (simp at this; omega)))
    go_wp2_with fail
    refine (has_c (k := 1) (c := 100)).mono ?_
    rw [show hasF 1 100 = false by decide]
    rintro e w4 ⟨rfl, hb4⟩
    (obtain ⟨hc_w4, hf_w4⟩ := bcell hb4; have z_w4_0 : w.heap.size < w4.heap.size := (by have := hb4.size; first | omega | (simp at this; omega)))
    go_wp2_with fail
    refine (has_c (k := 1) (c := 108)).mono ?_
    rw [show hasF 1 108 = false by decide]
    rintro e w5 ⟨rfl, hb5⟩
    (obtain ⟨hc_w5, hf_w5⟩ := bcell hb5; have z_w5_0 : w.heap.size < w5.heap.size := (by have := hb5.size; first | omega | (simp at this; omega)))
    go_wp2_with fail
    refine (has_c (k := 1) (c := 115)).mono ?_
    rw [show hasF 1 115 = true by decide]
    rintro e w6 ⟨rfl, hb6⟩
    (obtain ⟨hc_w6, hf_w6⟩ := bcell hb6; have z_w6_0 : w.heap.size < w6.heap.size := (by have := hb6.size; first | omega | (simp at this; omega)))
    go_wp2_with fail
    refine (HS.out _ (by repeat' (first | (with_reducible exact Below.refl _ _) | (with_reducible refine Below.alloc ?_ ?_ _) | (with_reducible refine Below.drew ?_) | (with_reducible refine below_drewN ?_ _) | (with_reducible refine Below.setCell ?_ ?_ _) | (refine via ?_ (by with_reducible assumption) ?_) | (refine via ?_ (below_ext _ _) ?_) | go_size))).mono ?_
    rw [← HQ5.out]
    rintro e w7 ⟨rfl, hb7⟩
    (obtain ⟨hc_w7, hf_w7⟩ := bcell hb7; have z_w7_0 : w.heap.size < w7.heap.size := (by have := hb7.size; first | omega | (simp at this; omega)))
    cases q5 with
    | false =>
      go_wp2
      go_ret
      exact ⟨by rw [HR.out]; rfl, (by repeat' (first | (with_reducible exact Below.refl _ _) | (with_reducible refine Below.alloc ?_ ?_ _) | (with_reducible refine Below.drew ?_) | (with_reducible refine below_drewN ?_ _) | (with_reducible refine Below.setCell ?_ ?_ _) | (refine via ?_ (by with_reducible assumption) ?_) | (refine via ?_ (below_ext _ _) ?_) | go_size))⟩
    | true =>
      go_wp2_with fail
      refine (has_c (k := 1) (c := 105)).mono ?_
      rw [show hasF 1 105 = true by decide]
      rintro e w8 ⟨rfl, hb8⟩
      (obtain ⟨hc_w8, hf_w8⟩ := bcell hb8; have z_w8_0 : w.heap.size < w8.heap.size := (by have := hb8.size; first | omega | (simp at this; omega)))
      go_wp2_with fail
      refine (has_c (k := 1) (c := 110)).mono ?_
      rw [show hasF 1 110 = false by decide]
      rintro e w9 ⟨rfl, hb9⟩
      (obtain ⟨hc_w9, hf_w9⟩ := bcell hb9; have z_w9_0 : w.heap.size < w9.heap.size := (by have := hb9.size; first | omega | (simp at this; omega)))
      cases p2 with
      | false =>
        have ht : ¬ nm.toList = [] := fun e => of_decide_eq_false HP2.out.symm ((str_nil _).1 e)
        go_wp2
        go_ret
        exact ⟨by rw [HR.out]; rfl, (by repeat' (first | (with_reducible exact Below.refl _ _) | (with_reducible refine Below.alloc ?_ ?_ _) | (with_reducible refine Below.drew ?_) | (with_reducible refine below_drewN ?_ _) | (with_reducible refine Below.setCell ?_ ?_ _) | (refine via ?_ (by with_reducible assumption) ?_) | (refine via ?_ (below_ext _ _) ?_) | go_size))⟩
      | true =>
        have ht : nm.toList = [] := (str_nil _).2 (of_decide_eq_true HP2.out.symm)
        go_wp2_with fail
        refine (has_c (k := 1) (c := 100)).mono ?_
        rw [show hasF 1 100 = false by decide]
        rintro e w10 ⟨rfl, hb10⟩
        (obtain ⟨hc_w10, hf_w10⟩ := bcell hb10; have z_w10_0 : w.heap.size < w10.heap.size := (by have := hb10.size; first | omega | (simp at this; omega)))
        cases p3 with
        | false =>
          have ht : ¬ dg.toList = [] := fun e => of_decide_eq_false HP3.out.symm ((str_nil _).1 e)
          go_wp2
          go_ret
          exact ⟨by rw [HR.out]; rfl, (by repeat' (first | (with_reducible exact Below.refl _ _) | (with_reducible refine Below.alloc ?_ ?_ _) | (with_reducible refine Below.drew ?_) | (with_reducible refine below_drewN ?_ _) | (with_reducible refine Below.setCell ?_ ?_ _) | (refine via ?_ (by with_reducible assumption) ?_) | (refine via ?_ (below_ext _ _) ?_) | go_size))⟩
        | true =>
          have ht : dg.toList = [] := (str_nil _).2 (of_decide_eq_true HP3.out.symm)
          go_wp2_with fail
          refine (has_c (k := 1) (c := 108)).mono ?_
          rw [show hasF 1 108 = false by decide]
          rintro e w11 ⟨rfl, hb11⟩
          (obtain ⟨hc_w11, hf_w11⟩ := bcell hb11; have z_w11_0 : w.heap.size < w11.heap.size := (by have := hb11.size; first | omega | (simp at this; omega)))
          cases p4 with
          | false =>
            have ht := of_decide_eq_false HP4.out.symm
            go_wp2
            go_ret
            exact ⟨by rw [HR.out]; rfl, (by repeat' (first | (with_reducible exact Below.refl _ _) | (with_reducible refine Below.alloc ?_ ?_ _) | (with_reducible refine Below.drew ?_) | (with_reducible refine below_drewN ?_ _) | (with_reducible refine Below.setCell ?_ ?_ _) | (refine via ?_ (by with_reducible assumption) ?_) | (refine via ?_ (below_ext _ _) ?_) | go_size))⟩
          | true =>
            have ht := of_decide_eq_true HP4.out.symm
            subst ht
            go_wp2_with fail
            refine (has_c (k := 1) (c := 115)).mono ?_
            rw [show hasF 1 115 = true by decide]
            rintro e w12 ⟨rfl, hb12⟩
            (obtain ⟨hc_w12, hf_w12⟩ := bcell hb12; have z_w12_0 : w.heap.size < w12.heap.size := (by have := hb12.size; first | omega | (simp at this; omega)))
            go_wp2
            go_ret
            exact ⟨by rw [HR.out]; rfl, (by repeat' (first | (with_reducible exact Below.refl _ _) | (with_reducible refine Below.alloc ?_ ?_ _) | (with_reducible refine Below.drew ?_) | (with_reducible refine below_drewN ?_ _) | (with_reducible refine Below.setCell ?_ ?_ _) | (refine via ?_ (by with_reducible assumption) ?_) | (refine via ?_ (below_ext _ _) ?_) | go_size))⟩
set_option maxRecDepth 100000 in
set_option maxHeartbeats 8000000 in
theorem recMay2_c {tg : Bool} {S : Nat → Prop} {w : World} {A4 A5 : Option Addr} {n4 c4 n5 c5 : Nat} {id : Int} {nm dg : ByteArray} {li : List Int} {sl : List Slot} (hl : Sl tg 3 intE w S A4 n4 c4 li) (hs : Sl tg 67 slotE w S A5 n5 c5 sl) :
    Calls Try.prog 17 #[.agg #[.int .i64 2, .int .i64 id, .string nm, .string dg, .slice A4 n4 c4, .slice A5 n5 c5]] w (RetV (.bool (recOk ⟨2, id, nm, dg, li, sl⟩)) w) := by
  have HLN := Lib.hid hl.len
  have HSN := Lib.hid hs.len
  have hcap4 : n4 ≤ 9223372036854775807 := Nat.le_trans hl.le hl.cap
  have hcap5 : n5 ≤ 9223372036854775807 := Nat.le_trans hs.le hs.cap
  have HL := Lib.hid (fun W (hW : Below w.heap.size w W) => list_c (kd := 2) (id := id) (nm := nm) (dg := dg) (B := A5) (n5 := n5) (c5 := c5) (hl.all hW))
  have HS := Lib.hid (fun W (hW : Below w.heap.size w W) => places_c (hs.all hW))
  obtain ⟨R, hR⟩ : ∃ R, R = recOk ⟨2, id, nm, dg, li, sl⟩ := ⟨_, rfl⟩
  rw [← hR]
  have HR : Hid (R = (numOk id && (listOk 2 li && (placesOk sl && (decide (nm = ByteArray.empty) && (decide (dg = ByteArray.empty))))))) := Lib.hid (by
    rw [hR]; unfold recOk
    simp only [show hasF 2 105 = true by decide, show hasF 2 110 = false by decide, show hasF 2 100 = false by decide, show hasF 2 108 = true by decide, show hasF 2 115 = true by decide, HLN.out, HSN.out]
    simp)
  clear hR hl hs
  obtain ⟨q1, hq1⟩ : ∃ q1, q1 = numOk id := ⟨_, rfl⟩
  rw [← hq1] at HR
  have HQ1 := Lib.hid hq1; clear hq1
  obtain ⟨q4, hq4⟩ : ∃ q4, q4 = listOk 2 li := ⟨_, rfl⟩
  rw [← hq4] at HR
  have HQ4 := Lib.hid hq4; clear hq4
  obtain ⟨q5, hq5⟩ : ∃ q5, q5 = placesOk sl := ⟨_, rfl⟩
  rw [← hq5] at HR
  have HQ5 := Lib.hid hq5; clear hq5
  obtain ⟨p2, hp2⟩ : ∃ p2, p2 = decide (nm = ByteArray.empty) := ⟨_, rfl⟩
  rw [← hp2] at HR
  have HP2 := Lib.hid hp2; clear hp2
  obtain ⟨p3, hp3⟩ : ∃ p3, p3 = decide (dg = ByteArray.empty) := ⟨_, rfl⟩
  rw [← hp3] at HR
  have HP3 := Lib.hid hp3; clear hp3
  go_enter Try.func17, Try.ntmps17
  go_wp2_with fail
  refine (has_c (k := 2) (c := 105)).mono ?_
  rw [show hasF 2 105 = true by decide]
  rintro e w1 ⟨rfl, hb1⟩
  (obtain ⟨hc_w1, hf_w1⟩ := bcell hb1; have z_w1_0 : w.heap.size < w1.heap.size := (by have := hb1.size; first | omega | (simp at this; omega)))
  go_wp2_with fail
  refine (recNumber_c (n := id)).mono ?_
  rw [← HQ1.out]
  rintro e w2 ⟨rfl, hb2⟩
  (obtain ⟨hc_w2, hf_w2⟩ := bcell hb2; have z_w2_0 : w.heap.size < w2.heap.size := (by have := hb2.size; first | omega | (simp at this; omega)))
  cases q1 with
  | false =>
    go_wp2
    go_ret
    exact ⟨by rw [HR.out]; rfl, (by repeat' (first | (with_reducible exact Below.refl _ _) | (with_reducible refine Below.alloc ?_ ?_ _) | (with_reducible refine Below.drew ?_) | (with_reducible refine below_drewN ?_ _) | (with_reducible refine Below.setCell ?_ ?_ _) | (refine via ?_ (by with_reducible assumption) ?_) | (refine via ?_ (below_ext _ _) ?_) | go_size))⟩
  | true =>
    go_wp2_with fail
    refine (has_c (k := 2) (c := 110)).mono ?_
    rw [show hasF 2 110 = false by decide]
    rintro e w3 ⟨rfl, hb3⟩
    (obtain ⟨hc_w3, hf_w3⟩ := bcell hb3; have z_w3_0 : w.heap.size < w3.heap.size := (by have := hb3.size; first | omega | (simp at this; omega)))
    go_wp2_with fail
    refine (has_c (k := 2) (c := 100)).mono ?_
    rw [show hasF 2 100 = false by decide]
    rintro e w4 ⟨rfl, hb4⟩
    (obtain ⟨hc_w4, hf_w4⟩ := bcell hb4; have z_w4_0 : w.heap.size < w4.heap.size := (by have := hb4.size; first | omega | (simp at this; omega)))
    go_wp2_with fail
    refine (has_c (k := 2) (c := 108)).mono ?_
    rw [show hasF 2 108 = true by decide]
    rintro e w5 ⟨rfl, hb5⟩
    (obtain ⟨hc_w5, hf_w5⟩ := bcell hb5; have z_w5_0 : w.heap.size < w5.heap.size := (by have := hb5.size; first | omega | (simp at this; omega)))
    go_wp2_with fail
    refine (HL.out _ (by repeat' (first | (with_reducible exact Below.refl _ _) | (with_reducible refine Below.alloc ?_ ?_ _) | (with_reducible refine Below.drew ?_) | (with_reducible refine below_drewN ?_ _) | (with_reducible refine Below.setCell ?_ ?_ _) | (refine via ?_ (by with_reducible assumption) ?_) | (refine via ?_ (below_ext _ _) ?_) | go_size))).mono ?_
    rw [← HQ4.out]
    rintro e w6 ⟨rfl, hb6⟩
    (obtain ⟨hc_w6, hf_w6⟩ := bcell hb6; have z_w6_0 : w.heap.size < w6.heap.size := (by have := hb6.size; first | omega | (simp at this; omega)))
    cases q4 with
    | false =>
      go_wp2
      go_ret
      exact ⟨by rw [HR.out]; rfl, (by repeat' (first | (with_reducible exact Below.refl _ _) | (with_reducible refine Below.alloc ?_ ?_ _) | (with_reducible refine Below.drew ?_) | (with_reducible refine below_drewN ?_ _) | (with_reducible refine Below.setCell ?_ ?_ _) | (refine via ?_ (by with_reducible assumption) ?_) | (refine via ?_ (below_ext _ _) ?_) | go_size))⟩
    | true =>
      go_wp2_with fail
      refine (has_c (k := 2) (c := 115)).mono ?_
      rw [show hasF 2 115 = true by decide]
      rintro e w7 ⟨rfl, hb7⟩
      (obtain ⟨hc_w7, hf_w7⟩ := bcell hb7; have z_w7_0 : w.heap.size < w7.heap.size := (by have := hb7.size; first | omega | (simp at this; omega)))
      go_wp2_with fail
      refine (HS.out _ (by repeat' (first | (with_reducible exact Below.refl _ _) | (with_reducible refine Below.alloc ?_ ?_ _) | (with_reducible refine Below.drew ?_) | (with_reducible refine below_drewN ?_ _) | (with_reducible refine Below.setCell ?_ ?_ _) | (refine via ?_ (by with_reducible assumption) ?_) | (refine via ?_ (below_ext _ _) ?_) | go_size))).mono ?_
      rw [← HQ5.out]
      rintro e w8 ⟨rfl, hb8⟩
      (obtain ⟨hc_w8, hf_w8⟩ := bcell hb8; have z_w8_0 : w.heap.size < w8.heap.size := (by have := hb8.size; first | omega | (simp at this; omega)))
      cases q5 with
      | false =>
        go_wp2
        go_ret
        exact ⟨by rw [HR.out]; rfl, (by repeat' (first | (with_reducible exact Below.refl _ _) | (with_reducible refine Below.alloc ?_ ?_ _) | (with_reducible refine Below.drew ?_) | (with_reducible refine below_drewN ?_ _) | (with_reducible refine Below.setCell ?_ ?_ _) | (refine via ?_ (by with_reducible assumption) ?_) | (refine via ?_ (below_ext _ _) ?_) | go_size))⟩
      | true =>
        go_wp2_with fail
        refine (has_c (k := 2) (c := 105)).mono ?_
        rw [show hasF 2 105 = true by decide]
        rintro e w9 ⟨rfl, hb9⟩
        (obtain ⟨hc_w9, hf_w9⟩ := bcell hb9; have z_w9_0 : w.heap.size < w9.heap.size := (by have := hb9.size; first | omega | (simp at this; omega)))
        go_wp2_with fail
        refine (has_c (k := 2) (c := 110)).mono ?_
        rw [show hasF 2 110 = false by decide]
        rintro e w10 ⟨rfl, hb10⟩
        (obtain ⟨hc_w10, hf_w10⟩ := bcell hb10; have z_w10_0 : w.heap.size < w10.heap.size := (by have := hb10.size; first | omega | (simp at this; omega)))
        cases p2 with
        | false =>
          have ht : ¬ nm.toList = [] := fun e => of_decide_eq_false HP2.out.symm ((str_nil _).1 e)
          go_wp2
          go_ret
          exact ⟨by rw [HR.out]; rfl, (by repeat' (first | (with_reducible exact Below.refl _ _) | (with_reducible refine Below.alloc ?_ ?_ _) | (with_reducible refine Below.drew ?_) | (with_reducible refine below_drewN ?_ _) | (with_reducible refine Below.setCell ?_ ?_ _) | (refine via ?_ (by with_reducible assumption) ?_) | (refine via ?_ (below_ext _ _) ?_) | go_size))⟩
        | true =>
          have ht : nm.toList = [] := (str_nil _).2 (of_decide_eq_true HP2.out.symm)
          go_wp2_with fail
          refine (has_c (k := 2) (c := 100)).mono ?_
          rw [show hasF 2 100 = false by decide]
          rintro e w11 ⟨rfl, hb11⟩
          (obtain ⟨hc_w11, hf_w11⟩ := bcell hb11; have z_w11_0 : w.heap.size < w11.heap.size := (by have := hb11.size; first | omega | (simp at this; omega)))
          cases p3 with
          | false =>
            have ht : ¬ dg.toList = [] := fun e => of_decide_eq_false HP3.out.symm ((str_nil _).1 e)
            go_wp2
            go_ret
            exact ⟨by rw [HR.out]; rfl, (by repeat' (first | (with_reducible exact Below.refl _ _) | (with_reducible refine Below.alloc ?_ ?_ _) | (with_reducible refine Below.drew ?_) | (with_reducible refine below_drewN ?_ _) | (with_reducible refine Below.setCell ?_ ?_ _) | (refine via ?_ (by with_reducible assumption) ?_) | (refine via ?_ (below_ext _ _) ?_) | go_size))⟩
          | true =>
            have ht : dg.toList = [] := (str_nil _).2 (of_decide_eq_true HP3.out.symm)
            go_wp2_with fail
            refine (has_c (k := 2) (c := 108)).mono ?_
            rw [show hasF 2 108 = true by decide]
            rintro e w12 ⟨rfl, hb12⟩
            (obtain ⟨hc_w12, hf_w12⟩ := bcell hb12; have z_w12_0 : w.heap.size < w12.heap.size := (by have := hb12.size; first | omega | (simp at this; omega)))
            go_wp2_with fail
            refine (has_c (k := 2) (c := 115)).mono ?_
            rw [show hasF 2 115 = true by decide]
            rintro e w13 ⟨rfl, hb13⟩
            (obtain ⟨hc_w13, hf_w13⟩ := bcell hb13; have z_w13_0 : w.heap.size < w13.heap.size := (by have := hb13.size; first | omega | (simp at this; omega)))
            go_wp2
            go_ret
            exact ⟨by rw [HR.out]; rfl, (by repeat' (first | (with_reducible exact Below.refl _ _) | (with_reducible refine Below.alloc ?_ ?_ _) | (with_reducible refine Below.drew ?_) | (with_reducible refine below_drewN ?_ _) | (with_reducible refine Below.setCell ?_ ?_ _) | (refine via ?_ (by with_reducible assumption) ?_) | (refine via ?_ (below_ext _ _) ?_) | go_size))⟩
set_option maxRecDepth 100000 in
set_option maxHeartbeats 8000000 in
theorem recMay3_c {tg : Bool} {S : Nat → Prop} {w : World} {A4 A5 : Option Addr} {n4 c4 n5 c5 : Nat} {id : Int} {nm dg : ByteArray} {li : List Int} {sl : List Slot} (hl : Sl tg 3 intE w S A4 n4 c4 li) (hs : Sl tg 67 slotE w S A5 n5 c5 sl) :
    Calls Try.prog 17 #[.agg #[.int .i64 3, .int .i64 id, .string nm, .string dg, .slice A4 n4 c4, .slice A5 n5 c5]] w (RetV (.bool (recOk ⟨3, id, nm, dg, li, sl⟩)) w) := by
  have HLN := Lib.hid hl.len
  have HSN := Lib.hid hs.len
  have hcap4 : n4 ≤ 9223372036854775807 := Nat.le_trans hl.le hl.cap
  have hcap5 : n5 ≤ 9223372036854775807 := Nat.le_trans hs.le hs.cap
  have HL := Lib.hid (fun W (hW : Below w.heap.size w W) => list_c (kd := 3) (id := id) (nm := nm) (dg := dg) (B := A5) (n5 := n5) (c5 := c5) (hl.all hW))
  have HS := Lib.hid (fun W (hW : Below w.heap.size w W) => places_c (hs.all hW))
  obtain ⟨R, hR⟩ : ∃ R, R = recOk ⟨3, id, nm, dg, li, sl⟩ := ⟨_, rfl⟩
  rw [← hR]
  have HR : Hid (R = (numOk id && (decide (nm = ByteArray.empty) && (decide (dg = ByteArray.empty) && (decide (n4 = 0) && (decide (n5 = 0))))))) := Lib.hid (by
    rw [hR]; unfold recOk
    simp only [show hasF 3 105 = true by decide, show hasF 3 110 = false by decide, show hasF 3 100 = false by decide, show hasF 3 108 = false by decide, show hasF 3 115 = false by decide, HLN.out, HSN.out]
    simp)
  clear hR hl hs
  obtain ⟨q1, hq1⟩ : ∃ q1, q1 = numOk id := ⟨_, rfl⟩
  rw [← hq1] at HR
  have HQ1 := Lib.hid hq1; clear hq1
  obtain ⟨p2, hp2⟩ : ∃ p2, p2 = decide (nm = ByteArray.empty) := ⟨_, rfl⟩
  rw [← hp2] at HR
  have HP2 := Lib.hid hp2; clear hp2
  obtain ⟨p3, hp3⟩ : ∃ p3, p3 = decide (dg = ByteArray.empty) := ⟨_, rfl⟩
  rw [← hp3] at HR
  have HP3 := Lib.hid hp3; clear hp3
  obtain ⟨p4, hp4⟩ : ∃ p4, p4 = decide (n4 = 0) := ⟨_, rfl⟩
  rw [← hp4] at HR
  have HP4 := Lib.hid hp4; clear hp4
  obtain ⟨p5, hp5⟩ : ∃ p5, p5 = decide (n5 = 0) := ⟨_, rfl⟩
  rw [← hp5] at HR
  have HP5 := Lib.hid hp5; clear hp5
  go_enter Try.func17, Try.ntmps17
  go_wp2_with fail
  refine (has_c (k := 3) (c := 105)).mono ?_
  rw [show hasF 3 105 = true by decide]
  rintro e w1 ⟨rfl, hb1⟩
  (obtain ⟨hc_w1, hf_w1⟩ := bcell hb1; have z_w1_0 : w.heap.size < w1.heap.size := (by have := hb1.size; first | omega | (simp at this; omega)))
  go_wp2_with fail
  refine (recNumber_c (n := id)).mono ?_
  rw [← HQ1.out]
  rintro e w2 ⟨rfl, hb2⟩
  (obtain ⟨hc_w2, hf_w2⟩ := bcell hb2; have z_w2_0 : w.heap.size < w2.heap.size := (by have := hb2.size; first | omega | (simp at this; omega)))
  cases q1 with
  | false =>
    go_wp2
    go_ret
    exact ⟨by rw [HR.out]; rfl, (by repeat' (first | (with_reducible exact Below.refl _ _) | (with_reducible refine Below.alloc ?_ ?_ _) | (with_reducible refine Below.drew ?_) | (with_reducible refine below_drewN ?_ _) | (with_reducible refine Below.setCell ?_ ?_ _) | (refine via ?_ (by with_reducible assumption) ?_) | (refine via ?_ (below_ext _ _) ?_) | go_size))⟩
  | true =>
    go_wp2_with fail
    refine (has_c (k := 3) (c := 110)).mono ?_
    rw [show hasF 3 110 = false by decide]
    rintro e w3 ⟨rfl, hb3⟩
    (obtain ⟨hc_w3, hf_w3⟩ := bcell hb3; have z_w3_0 : w.heap.size < w3.heap.size := (by have := hb3.size; first | omega | (simp at this; omega)))
    go_wp2_with fail
    refine (has_c (k := 3) (c := 100)).mono ?_
    rw [show hasF 3 100 = false by decide]
    rintro e w4 ⟨rfl, hb4⟩
    (obtain ⟨hc_w4, hf_w4⟩ := bcell hb4; have z_w4_0 : w.heap.size < w4.heap.size := (by have := hb4.size; first | omega | (simp at this; omega)))
    go_wp2_with fail
    refine (has_c (k := 3) (c := 108)).mono ?_
    rw [show hasF 3 108 = false by decide]
    rintro e w5 ⟨rfl, hb5⟩
    (obtain ⟨hc_w5, hf_w5⟩ := bcell hb5; have z_w5_0 : w.heap.size < w5.heap.size := (by have := hb5.size; first | omega | (simp at this; omega)))
    go_wp2_with fail
    refine (has_c (k := 3) (c := 115)).mono ?_
    rw [show hasF 3 115 = false by decide]
    rintro e w6 ⟨rfl, hb6⟩
    (obtain ⟨hc_w6, hf_w6⟩ := bcell hb6; have z_w6_0 : w.heap.size < w6.heap.size := (by have := hb6.size; first | omega | (simp at this; omega)))
    go_wp2_with fail
    refine (has_c (k := 3) (c := 105)).mono ?_
    rw [show hasF 3 105 = true by decide]
    rintro e w7 ⟨rfl, hb7⟩
    (obtain ⟨hc_w7, hf_w7⟩ := bcell hb7; have z_w7_0 : w.heap.size < w7.heap.size := (by have := hb7.size; first | omega | (simp at this; omega)))
    go_wp2_with fail
    refine (has_c (k := 3) (c := 110)).mono ?_
    rw [show hasF 3 110 = false by decide]
    rintro e w8 ⟨rfl, hb8⟩
    (obtain ⟨hc_w8, hf_w8⟩ := bcell hb8; have z_w8_0 : w.heap.size < w8.heap.size := (by have := hb8.size; first | omega | (simp at this; omega)))
    cases p2 with
    | false =>
      have ht : ¬ nm.toList = [] := fun e => of_decide_eq_false HP2.out.symm ((str_nil _).1 e)
      go_wp2
      go_ret
      exact ⟨by rw [HR.out]; rfl, (by repeat' (first | (with_reducible exact Below.refl _ _) | (with_reducible refine Below.alloc ?_ ?_ _) | (with_reducible refine Below.drew ?_) | (with_reducible refine below_drewN ?_ _) | (with_reducible refine Below.setCell ?_ ?_ _) | (refine via ?_ (by with_reducible assumption) ?_) | (refine via ?_ (below_ext _ _) ?_) | go_size))⟩
    | true =>
      have ht : nm.toList = [] := (str_nil _).2 (of_decide_eq_true HP2.out.symm)
      go_wp2_with fail
      refine (has_c (k := 3) (c := 100)).mono ?_
      rw [show hasF 3 100 = false by decide]
      rintro e w9 ⟨rfl, hb9⟩
      (obtain ⟨hc_w9, hf_w9⟩ := bcell hb9; have z_w9_0 : w.heap.size < w9.heap.size := (by have := hb9.size; first | omega | (simp at this; omega)))
      cases p3 with
      | false =>
        have ht : ¬ dg.toList = [] := fun e => of_decide_eq_false HP3.out.symm ((str_nil _).1 e)
        go_wp2
        go_ret
        exact ⟨by rw [HR.out]; rfl, (by repeat' (first | (with_reducible exact Below.refl _ _) | (with_reducible refine Below.alloc ?_ ?_ _) | (with_reducible refine Below.drew ?_) | (with_reducible refine below_drewN ?_ _) | (with_reducible refine Below.setCell ?_ ?_ _) | (refine via ?_ (by with_reducible assumption) ?_) | (refine via ?_ (below_ext _ _) ?_) | go_size))⟩
      | true =>
        have ht : dg.toList = [] := (str_nil _).2 (of_decide_eq_true HP3.out.symm)
        go_wp2_with fail
        refine (has_c (k := 3) (c := 108)).mono ?_
        rw [show hasF 3 108 = false by decide]
        rintro e w10 ⟨rfl, hb10⟩
        (obtain ⟨hc_w10, hf_w10⟩ := bcell hb10; have z_w10_0 : w.heap.size < w10.heap.size := (by have := hb10.size; first | omega | (simp at this; omega)))
        cases p4 with
        | false =>
          have ht := of_decide_eq_false HP4.out.symm
          go_wp2
          go_ret
          exact ⟨by rw [HR.out]; rfl, (by repeat' (first | (with_reducible exact Below.refl _ _) | (with_reducible refine Below.alloc ?_ ?_ _) | (with_reducible refine Below.drew ?_) | (with_reducible refine below_drewN ?_ _) | (with_reducible refine Below.setCell ?_ ?_ _) | (refine via ?_ (by with_reducible assumption) ?_) | (refine via ?_ (below_ext _ _) ?_) | go_size))⟩
        | true =>
          have ht := of_decide_eq_true HP4.out.symm
          subst ht
          go_wp2_with fail
          refine (has_c (k := 3) (c := 115)).mono ?_
          rw [show hasF 3 115 = false by decide]
          rintro e w11 ⟨rfl, hb11⟩
          (obtain ⟨hc_w11, hf_w11⟩ := bcell hb11; have z_w11_0 : w.heap.size < w11.heap.size := (by have := hb11.size; first | omega | (simp at this; omega)))
          cases p5 with
          | false =>
            have ht0 := of_decide_eq_false HP5.out.symm
            have ht : ((n5 : Int) == 0) = false := by simp; omega
            clear ht0
            go_wp2
            go_ret
            exact ⟨by rw [HR.out]; rfl, (by repeat' (first | (with_reducible exact Below.refl _ _) | (with_reducible refine Below.alloc ?_ ?_ _) | (with_reducible refine Below.drew ?_) | (with_reducible refine below_drewN ?_ _) | (with_reducible refine Below.setCell ?_ ?_ _) | (refine via ?_ (by with_reducible assumption) ?_) | (refine via ?_ (below_ext _ _) ?_) | go_size))⟩
          | true =>
            have ht := of_decide_eq_true HP5.out.symm
            subst ht
            go_wp2
            go_ret
            exact ⟨by rw [HR.out]; rfl, (by repeat' (first | (with_reducible exact Below.refl _ _) | (with_reducible refine Below.alloc ?_ ?_ _) | (with_reducible refine Below.drew ?_) | (with_reducible refine below_drewN ?_ _) | (with_reducible refine Below.setCell ?_ ?_ _) | (refine via ?_ (by with_reducible assumption) ?_) | (refine via ?_ (below_ext _ _) ?_) | go_size))⟩
set_option maxRecDepth 100000 in
set_option maxHeartbeats 8000000 in
theorem recMay4_c {tg : Bool} {S : Nat → Prop} {w : World} {A4 A5 : Option Addr} {n4 c4 n5 c5 : Nat} {id : Int} {nm dg : ByteArray} {li : List Int} {sl : List Slot} (hl : Sl tg 3 intE w S A4 n4 c4 li) (hs : Sl tg 67 slotE w S A5 n5 c5 sl) :
    Calls Try.prog 17 #[.agg #[.int .i64 4, .int .i64 id, .string nm, .string dg, .slice A4 n4 c4, .slice A5 n5 c5]] w (RetV (.bool (recOk ⟨4, id, nm, dg, li, sl⟩)) w) := by
  have HLN := Lib.hid hl.len
  have HSN := Lib.hid hs.len
  have hcap4 : n4 ≤ 9223372036854775807 := Nat.le_trans hl.le hl.cap
  have hcap5 : n5 ≤ 9223372036854775807 := Nat.le_trans hs.le hs.cap
  have HL := Lib.hid (fun W (hW : Below w.heap.size w W) => list_c (kd := 4) (id := id) (nm := nm) (dg := dg) (B := A5) (n5 := n5) (c5 := c5) (hl.all hW))
  have HS := Lib.hid (fun W (hW : Below w.heap.size w W) => places_c (hs.all hW))
  obtain ⟨R, hR⟩ : ∃ R, R = recOk ⟨4, id, nm, dg, li, sl⟩ := ⟨_, rfl⟩
  rw [← hR]
  have HR : Hid (R = (numOk id && (decide (dg.size = 32) && (listOk 4 li && (decide (nm = ByteArray.empty) && (decide (n5 = 0))))))) := Lib.hid (by
    rw [hR]; unfold recOk
    simp only [show hasF 4 105 = true by decide, show hasF 4 110 = false by decide, show hasF 4 100 = true by decide, show hasF 4 108 = true by decide, show hasF 4 115 = false by decide, HLN.out, HSN.out]
    simp)
  clear hR hl hs
  obtain ⟨q1, hq1⟩ : ∃ q1, q1 = numOk id := ⟨_, rfl⟩
  rw [← hq1] at HR
  have HQ1 := Lib.hid hq1; clear hq1
  obtain ⟨q3, hq3⟩ : ∃ q3, q3 = decide (dg.size = 32) := ⟨_, rfl⟩
  rw [← hq3] at HR
  have HQ3 := Lib.hid hq3; clear hq3
  obtain ⟨q4, hq4⟩ : ∃ q4, q4 = listOk 4 li := ⟨_, rfl⟩
  rw [← hq4] at HR
  have HQ4 := Lib.hid hq4; clear hq4
  obtain ⟨p2, hp2⟩ : ∃ p2, p2 = decide (nm = ByteArray.empty) := ⟨_, rfl⟩
  rw [← hp2] at HR
  have HP2 := Lib.hid hp2; clear hp2
  obtain ⟨p5, hp5⟩ : ∃ p5, p5 = decide (n5 = 0) := ⟨_, rfl⟩
  rw [← hp5] at HR
  have HP5 := Lib.hid hp5; clear hp5
  go_enter Try.func17, Try.ntmps17
  go_wp2_with fail
  refine (has_c (k := 4) (c := 105)).mono ?_
  rw [show hasF 4 105 = true by decide]
  rintro e w1 ⟨rfl, hb1⟩
  (obtain ⟨hc_w1, hf_w1⟩ := bcell hb1; have z_w1_0 : w.heap.size < w1.heap.size := (by have := hb1.size; first | omega | (simp at this; omega)))
  go_wp2_with fail
  refine (recNumber_c (n := id)).mono ?_
  rw [← HQ1.out]
  rintro e w2 ⟨rfl, hb2⟩
  (obtain ⟨hc_w2, hf_w2⟩ := bcell hb2; have z_w2_0 : w.heap.size < w2.heap.size := (by have := hb2.size; first | omega | (simp at this; omega)))
  cases q1 with
  | false =>
    go_wp2
    go_ret
    exact ⟨by rw [HR.out]; rfl, (by repeat' (first | (with_reducible exact Below.refl _ _) | (with_reducible refine Below.alloc ?_ ?_ _) | (with_reducible refine Below.drew ?_) | (with_reducible refine below_drewN ?_ _) | (with_reducible refine Below.setCell ?_ ?_ _) | (refine via ?_ (by with_reducible assumption) ?_) | (refine via ?_ (below_ext _ _) ?_) | go_size))⟩
  | true =>
    go_wp2_with fail
    refine (has_c (k := 4) (c := 110)).mono ?_
    rw [show hasF 4 110 = false by decide]
    rintro e w3 ⟨rfl, hb3⟩
    (obtain ⟨hc_w3, hf_w3⟩ := bcell hb3; have z_w3_0 : w.heap.size < w3.heap.size := (by have := hb3.size; first | omega | (simp at this; omega)))
    go_wp2_with fail
    refine (has_c (k := 4) (c := 100)).mono ?_
    rw [show hasF 4 100 = true by decide]
    rintro e w4 ⟨rfl, hb4⟩
    (obtain ⟨hc_w4, hf_w4⟩ := bcell hb4; have z_w4_0 : w.heap.size < w4.heap.size := (by have := hb4.size; first | omega | (simp at this; omega)))
    cases q3 with
    | false =>
      have hd1 := of_decide_eq_false HQ3.out.symm
      go_wp2
      go_ret
      exact ⟨by rw [HR.out]; rfl, (by repeat' (first | (with_reducible exact Below.refl _ _) | (with_reducible refine Below.alloc ?_ ?_ _) | (with_reducible refine Below.drew ?_) | (with_reducible refine below_drewN ?_ _) | (with_reducible refine Below.setCell ?_ ?_ _) | (refine via ?_ (by with_reducible assumption) ?_) | (refine via ?_ (below_ext _ _) ?_) | go_size))⟩
    | true =>
      have hd1 := of_decide_eq_true HQ3.out.symm
      go_wp2_with fail
      refine (has_c (k := 4) (c := 108)).mono ?_
      rw [show hasF 4 108 = true by decide]
      rintro e w5 ⟨rfl, hb5⟩
      (obtain ⟨hc_w5, hf_w5⟩ := bcell hb5; have z_w5_0 : w.heap.size < w5.heap.size := (by have := hb5.size; first | omega | (simp at this; omega)))
      go_wp2_with fail
      refine (HL.out _ (by repeat' (first | (with_reducible exact Below.refl _ _) | (with_reducible refine Below.alloc ?_ ?_ _) | (with_reducible refine Below.drew ?_) | (with_reducible refine below_drewN ?_ _) | (with_reducible refine Below.setCell ?_ ?_ _) | (refine via ?_ (by with_reducible assumption) ?_) | (refine via ?_ (below_ext _ _) ?_) | go_size))).mono ?_
      rw [← HQ4.out]
      rintro e w6 ⟨rfl, hb6⟩
      (obtain ⟨hc_w6, hf_w6⟩ := bcell hb6; have z_w6_0 : w.heap.size < w6.heap.size := (by have := hb6.size; first | omega | (simp at this; omega)))
      cases q4 with
      | false =>
        go_wp2
        go_ret
        exact ⟨by rw [HR.out]; rfl, (by repeat' (first | (with_reducible exact Below.refl _ _) | (with_reducible refine Below.alloc ?_ ?_ _) | (with_reducible refine Below.drew ?_) | (with_reducible refine below_drewN ?_ _) | (with_reducible refine Below.setCell ?_ ?_ _) | (refine via ?_ (by with_reducible assumption) ?_) | (refine via ?_ (below_ext _ _) ?_) | go_size))⟩
      | true =>
        go_wp2_with fail
        refine (has_c (k := 4) (c := 115)).mono ?_
        rw [show hasF 4 115 = false by decide]
        rintro e w7 ⟨rfl, hb7⟩
        (obtain ⟨hc_w7, hf_w7⟩ := bcell hb7; have z_w7_0 : w.heap.size < w7.heap.size := (by have := hb7.size; first | omega | (simp at this; omega)))
        go_wp2_with fail
        refine (has_c (k := 4) (c := 105)).mono ?_
        rw [show hasF 4 105 = true by decide]
        rintro e w8 ⟨rfl, hb8⟩
        (obtain ⟨hc_w8, hf_w8⟩ := bcell hb8; have z_w8_0 : w.heap.size < w8.heap.size := (by have := hb8.size; first | omega | (simp at this; omega)))
        go_wp2_with fail
        refine (has_c (k := 4) (c := 110)).mono ?_
        rw [show hasF 4 110 = false by decide]
        rintro e w9 ⟨rfl, hb9⟩
        (obtain ⟨hc_w9, hf_w9⟩ := bcell hb9; have z_w9_0 : w.heap.size < w9.heap.size := (by have := hb9.size; first | omega | (simp at this; omega)))
        cases p2 with
        | false =>
          have ht : ¬ nm.toList = [] := fun e => of_decide_eq_false HP2.out.symm ((str_nil _).1 e)
          go_wp2
          go_ret
          exact ⟨by rw [HR.out]; rfl, (by repeat' (first | (with_reducible exact Below.refl _ _) | (with_reducible refine Below.alloc ?_ ?_ _) | (with_reducible refine Below.drew ?_) | (with_reducible refine below_drewN ?_ _) | (with_reducible refine Below.setCell ?_ ?_ _) | (refine via ?_ (by with_reducible assumption) ?_) | (refine via ?_ (below_ext _ _) ?_) | go_size))⟩
        | true =>
          have ht : nm.toList = [] := (str_nil _).2 (of_decide_eq_true HP2.out.symm)
          go_wp2_with fail
          refine (has_c (k := 4) (c := 100)).mono ?_
          rw [show hasF 4 100 = true by decide]
          rintro e w10 ⟨rfl, hb10⟩
          (obtain ⟨hc_w10, hf_w10⟩ := bcell hb10; have z_w10_0 : w.heap.size < w10.heap.size := (by have := hb10.size; first | omega | (simp at this; omega)))
          go_wp2_with fail
          refine (has_c (k := 4) (c := 108)).mono ?_
          rw [show hasF 4 108 = true by decide]
          rintro e w11 ⟨rfl, hb11⟩
          (obtain ⟨hc_w11, hf_w11⟩ := bcell hb11; have z_w11_0 : w.heap.size < w11.heap.size := (by have := hb11.size; first | omega | (simp at this; omega)))
          go_wp2_with fail
          refine (has_c (k := 4) (c := 115)).mono ?_
          rw [show hasF 4 115 = false by decide]
          rintro e w12 ⟨rfl, hb12⟩
          (obtain ⟨hc_w12, hf_w12⟩ := bcell hb12; have z_w12_0 : w.heap.size < w12.heap.size := (by have := hb12.size; first | omega | (simp at this; omega)))
          cases p5 with
          | false =>
            have ht0 := of_decide_eq_false HP5.out.symm
            have ht : ((n5 : Int) == 0) = false := by simp; omega
            clear ht0
            go_wp2
            go_ret
            exact ⟨by rw [HR.out]; rfl, (by repeat' (first | (with_reducible exact Below.refl _ _) | (with_reducible refine Below.alloc ?_ ?_ _) | (with_reducible refine Below.drew ?_) | (with_reducible refine below_drewN ?_ _) | (with_reducible refine Below.setCell ?_ ?_ _) | (refine via ?_ (by with_reducible assumption) ?_) | (refine via ?_ (below_ext _ _) ?_) | go_size))⟩
          | true =>
            have ht := of_decide_eq_true HP5.out.symm
            subst ht
            go_wp2
            go_ret
            exact ⟨by rw [HR.out]; rfl, (by repeat' (first | (with_reducible exact Below.refl _ _) | (with_reducible refine Below.alloc ?_ ?_ _) | (with_reducible refine Below.drew ?_) | (with_reducible refine below_drewN ?_ _) | (with_reducible refine Below.setCell ?_ ?_ _) | (refine via ?_ (by with_reducible assumption) ?_) | (refine via ?_ (below_ext _ _) ?_) | go_size))⟩
set_option maxRecDepth 100000 in
set_option maxHeartbeats 8000000 in
theorem recMay5_c {tg : Bool} {S : Nat → Prop} {w : World} {A4 A5 : Option Addr} {n4 c4 n5 c5 : Nat} {id : Int} {nm dg : ByteArray} {li : List Int} {sl : List Slot} (hl : Sl tg 3 intE w S A4 n4 c4 li) (hs : Sl tg 67 slotE w S A5 n5 c5 sl) :
    Calls Try.prog 17 #[.agg #[.int .i64 5, .int .i64 id, .string nm, .string dg, .slice A4 n4 c4, .slice A5 n5 c5]] w (RetV (.bool (recOk ⟨5, id, nm, dg, li, sl⟩)) w) := by
  have HLN := Lib.hid hl.len
  have HSN := Lib.hid hs.len
  have hcap4 : n4 ≤ 9223372036854775807 := Nat.le_trans hl.le hl.cap
  have hcap5 : n5 ≤ 9223372036854775807 := Nat.le_trans hs.le hs.cap
  have HL := Lib.hid (fun W (hW : Below w.heap.size w W) => list_c (kd := 5) (id := id) (nm := nm) (dg := dg) (B := A5) (n5 := n5) (c5 := c5) (hl.all hW))
  have HS := Lib.hid (fun W (hW : Below w.heap.size w W) => places_c (hs.all hW))
  obtain ⟨R, hR⟩ : ∃ R, R = recOk ⟨5, id, nm, dg, li, sl⟩ := ⟨_, rfl⟩
  rw [← hR]
  have HR : Hid (R = (numOk id && (decide (dg.size = 32) && (listOk 5 li && (decide (nm = ByteArray.empty) && (decide (n5 = 0))))))) := Lib.hid (by
    rw [hR]; unfold recOk
    simp only [show hasF 5 105 = true by decide, show hasF 5 110 = false by decide, show hasF 5 100 = true by decide, show hasF 5 108 = true by decide, show hasF 5 115 = false by decide, HLN.out, HSN.out]
    simp)
  clear hR hl hs
  obtain ⟨q1, hq1⟩ : ∃ q1, q1 = numOk id := ⟨_, rfl⟩
  rw [← hq1] at HR
  have HQ1 := Lib.hid hq1; clear hq1
  obtain ⟨q3, hq3⟩ : ∃ q3, q3 = decide (dg.size = 32) := ⟨_, rfl⟩
  rw [← hq3] at HR
  have HQ3 := Lib.hid hq3; clear hq3
  obtain ⟨q4, hq4⟩ : ∃ q4, q4 = listOk 5 li := ⟨_, rfl⟩
  rw [← hq4] at HR
  have HQ4 := Lib.hid hq4; clear hq4
  obtain ⟨p2, hp2⟩ : ∃ p2, p2 = decide (nm = ByteArray.empty) := ⟨_, rfl⟩
  rw [← hp2] at HR
  have HP2 := Lib.hid hp2; clear hp2
  obtain ⟨p5, hp5⟩ : ∃ p5, p5 = decide (n5 = 0) := ⟨_, rfl⟩
  rw [← hp5] at HR
  have HP5 := Lib.hid hp5; clear hp5
  go_enter Try.func17, Try.ntmps17
  go_wp2_with fail
  refine (has_c (k := 5) (c := 105)).mono ?_
  rw [show hasF 5 105 = true by decide]
  rintro e w1 ⟨rfl, hb1⟩
  (obtain ⟨hc_w1, hf_w1⟩ := bcell hb1; have z_w1_0 : w.heap.size < w1.heap.size := (by have := hb1.size; first | omega | (simp at this; omega)))
  go_wp2_with fail
  refine (recNumber_c (n := id)).mono ?_
  rw [← HQ1.out]
  rintro e w2 ⟨rfl, hb2⟩
  (obtain ⟨hc_w2, hf_w2⟩ := bcell hb2; have z_w2_0 : w.heap.size < w2.heap.size := (by have := hb2.size; first | omega | (simp at this; omega)))
  cases q1 with
  | false =>
    go_wp2
    go_ret
    exact ⟨by rw [HR.out]; rfl, (by repeat' (first | (with_reducible exact Below.refl _ _) | (with_reducible refine Below.alloc ?_ ?_ _) | (with_reducible refine Below.drew ?_) | (with_reducible refine below_drewN ?_ _) | (with_reducible refine Below.setCell ?_ ?_ _) | (refine via ?_ (by with_reducible assumption) ?_) | (refine via ?_ (below_ext _ _) ?_) | go_size))⟩
  | true =>
    go_wp2_with fail
    refine (has_c (k := 5) (c := 110)).mono ?_
    rw [show hasF 5 110 = false by decide]
    rintro e w3 ⟨rfl, hb3⟩
    (obtain ⟨hc_w3, hf_w3⟩ := bcell hb3; have z_w3_0 : w.heap.size < w3.heap.size := (by have := hb3.size; first | omega | (simp at this; omega)))
    go_wp2_with fail
    refine (has_c (k := 5) (c := 100)).mono ?_
    rw [show hasF 5 100 = true by decide]
    rintro e w4 ⟨rfl, hb4⟩
    (obtain ⟨hc_w4, hf_w4⟩ := bcell hb4; have z_w4_0 : w.heap.size < w4.heap.size := (by have := hb4.size; first | omega | (simp at this; omega)))
    cases q3 with
    | false =>
      have hd1 := of_decide_eq_false HQ3.out.symm
      go_wp2
      go_ret
      exact ⟨by rw [HR.out]; rfl, (by repeat' (first | (with_reducible exact Below.refl _ _) | (with_reducible refine Below.alloc ?_ ?_ _) | (with_reducible refine Below.drew ?_) | (with_reducible refine below_drewN ?_ _) | (with_reducible refine Below.setCell ?_ ?_ _) | (refine via ?_ (by with_reducible assumption) ?_) | (refine via ?_ (below_ext _ _) ?_) | go_size))⟩
    | true =>
      have hd1 := of_decide_eq_true HQ3.out.symm
      go_wp2_with fail
      refine (has_c (k := 5) (c := 108)).mono ?_
      rw [show hasF 5 108 = true by decide]
      rintro e w5 ⟨rfl, hb5⟩
      (obtain ⟨hc_w5, hf_w5⟩ := bcell hb5; have z_w5_0 : w.heap.size < w5.heap.size := (by have := hb5.size; first | omega | (simp at this; omega)))
      go_wp2_with fail
      refine (HL.out _ (by repeat' (first | (with_reducible exact Below.refl _ _) | (with_reducible refine Below.alloc ?_ ?_ _) | (with_reducible refine Below.drew ?_) | (with_reducible refine below_drewN ?_ _) | (with_reducible refine Below.setCell ?_ ?_ _) | (refine via ?_ (by with_reducible assumption) ?_) | (refine via ?_ (below_ext _ _) ?_) | go_size))).mono ?_
      rw [← HQ4.out]
      rintro e w6 ⟨rfl, hb6⟩
      (obtain ⟨hc_w6, hf_w6⟩ := bcell hb6; have z_w6_0 : w.heap.size < w6.heap.size := (by have := hb6.size; first | omega | (simp at this; omega)))
      cases q4 with
      | false =>
        go_wp2
        go_ret
        exact ⟨by rw [HR.out]; rfl, (by repeat' (first | (with_reducible exact Below.refl _ _) | (with_reducible refine Below.alloc ?_ ?_ _) | (with_reducible refine Below.drew ?_) | (with_reducible refine below_drewN ?_ _) | (with_reducible refine Below.setCell ?_ ?_ _) | (refine via ?_ (by with_reducible assumption) ?_) | (refine via ?_ (below_ext _ _) ?_) | go_size))⟩
      | true =>
        go_wp2_with fail
        refine (has_c (k := 5) (c := 115)).mono ?_
        rw [show hasF 5 115 = false by decide]
        rintro e w7 ⟨rfl, hb7⟩
        (obtain ⟨hc_w7, hf_w7⟩ := bcell hb7; have z_w7_0 : w.heap.size < w7.heap.size := (by have := hb7.size; first | omega | (simp at this; omega)))
        go_wp2_with fail
        refine (has_c (k := 5) (c := 105)).mono ?_
        rw [show hasF 5 105 = true by decide]
        rintro e w8 ⟨rfl, hb8⟩
        (obtain ⟨hc_w8, hf_w8⟩ := bcell hb8; have z_w8_0 : w.heap.size < w8.heap.size := (by have := hb8.size; first | omega | (simp at this; omega)))
        go_wp2_with fail
        refine (has_c (k := 5) (c := 110)).mono ?_
        rw [show hasF 5 110 = false by decide]
        rintro e w9 ⟨rfl, hb9⟩
        (obtain ⟨hc_w9, hf_w9⟩ := bcell hb9; have z_w9_0 : w.heap.size < w9.heap.size := (by have := hb9.size; first | omega | (simp at this; omega)))
        cases p2 with
        | false =>
          have ht : ¬ nm.toList = [] := fun e => of_decide_eq_false HP2.out.symm ((str_nil _).1 e)
          go_wp2
          go_ret
          exact ⟨by rw [HR.out]; rfl, (by repeat' (first | (with_reducible exact Below.refl _ _) | (with_reducible refine Below.alloc ?_ ?_ _) | (with_reducible refine Below.drew ?_) | (with_reducible refine below_drewN ?_ _) | (with_reducible refine Below.setCell ?_ ?_ _) | (refine via ?_ (by with_reducible assumption) ?_) | (refine via ?_ (below_ext _ _) ?_) | go_size))⟩
        | true =>
          have ht : nm.toList = [] := (str_nil _).2 (of_decide_eq_true HP2.out.symm)
          go_wp2_with fail
          refine (has_c (k := 5) (c := 100)).mono ?_
          rw [show hasF 5 100 = true by decide]
          rintro e w10 ⟨rfl, hb10⟩
          (obtain ⟨hc_w10, hf_w10⟩ := bcell hb10; have z_w10_0 : w.heap.size < w10.heap.size := (by have := hb10.size; first | omega | (simp at this; omega)))
          go_wp2_with fail
          refine (has_c (k := 5) (c := 108)).mono ?_
          rw [show hasF 5 108 = true by decide]
          rintro e w11 ⟨rfl, hb11⟩
          (obtain ⟨hc_w11, hf_w11⟩ := bcell hb11; have z_w11_0 : w.heap.size < w11.heap.size := (by have := hb11.size; first | omega | (simp at this; omega)))
          go_wp2_with fail
          refine (has_c (k := 5) (c := 115)).mono ?_
          rw [show hasF 5 115 = false by decide]
          rintro e w12 ⟨rfl, hb12⟩
          (obtain ⟨hc_w12, hf_w12⟩ := bcell hb12; have z_w12_0 : w.heap.size < w12.heap.size := (by have := hb12.size; first | omega | (simp at this; omega)))
          cases p5 with
          | false =>
            have ht0 := of_decide_eq_false HP5.out.symm
            have ht : ((n5 : Int) == 0) = false := by simp; omega
            clear ht0
            go_wp2
            go_ret
            exact ⟨by rw [HR.out]; rfl, (by repeat' (first | (with_reducible exact Below.refl _ _) | (with_reducible refine Below.alloc ?_ ?_ _) | (with_reducible refine Below.drew ?_) | (with_reducible refine below_drewN ?_ _) | (with_reducible refine Below.setCell ?_ ?_ _) | (refine via ?_ (by with_reducible assumption) ?_) | (refine via ?_ (below_ext _ _) ?_) | go_size))⟩
          | true =>
            have ht := of_decide_eq_true HP5.out.symm
            subst ht
            go_wp2
            go_ret
            exact ⟨by rw [HR.out]; rfl, (by repeat' (first | (with_reducible exact Below.refl _ _) | (with_reducible refine Below.alloc ?_ ?_ _) | (with_reducible refine Below.drew ?_) | (with_reducible refine below_drewN ?_ _) | (with_reducible refine Below.setCell ?_ ?_ _) | (refine via ?_ (by with_reducible assumption) ?_) | (refine via ?_ (below_ext _ _) ?_) | go_size))⟩
set_option maxRecDepth 100000 in
set_option maxHeartbeats 8000000 in
theorem recMay6_c {tg : Bool} {S : Nat → Prop} {w : World} {A4 A5 : Option Addr} {n4 c4 n5 c5 : Nat} {id : Int} {nm dg : ByteArray} {li : List Int} {sl : List Slot} (hl : Sl tg 3 intE w S A4 n4 c4 li) (hs : Sl tg 67 slotE w S A5 n5 c5 sl) :
    Calls Try.prog 17 #[.agg #[.int .i64 6, .int .i64 id, .string nm, .string dg, .slice A4 n4 c4, .slice A5 n5 c5]] w (RetV (.bool (recOk ⟨6, id, nm, dg, li, sl⟩)) w) := by
  have HLN := Lib.hid hl.len
  have HSN := Lib.hid hs.len
  have hcap4 : n4 ≤ 9223372036854775807 := Nat.le_trans hl.le hl.cap
  have hcap5 : n5 ≤ 9223372036854775807 := Nat.le_trans hs.le hs.cap
  have HL := Lib.hid (fun W (hW : Below w.heap.size w W) => list_c (kd := 6) (id := id) (nm := nm) (dg := dg) (B := A5) (n5 := n5) (c5 := c5) (hl.all hW))
  have HS := Lib.hid (fun W (hW : Below w.heap.size w W) => places_c (hs.all hW))
  obtain ⟨R, hR⟩ : ∃ R, R = recOk ⟨6, id, nm, dg, li, sl⟩ := ⟨_, rfl⟩
  rw [← hR]
  have HR : Hid (R = (decide (dg.size = 32) && (decide (id = 0) && (decide (nm = ByteArray.empty) && (decide (n4 = 0) && (decide (n5 = 0))))))) := Lib.hid (by
    rw [hR]; unfold recOk
    simp only [show hasF 6 105 = false by decide, show hasF 6 110 = false by decide, show hasF 6 100 = true by decide, show hasF 6 108 = false by decide, show hasF 6 115 = false by decide, HLN.out, HSN.out]
    simp)
  clear hR hl hs
  obtain ⟨q3, hq3⟩ : ∃ q3, q3 = decide (dg.size = 32) := ⟨_, rfl⟩
  rw [← hq3] at HR
  have HQ3 := Lib.hid hq3; clear hq3
  obtain ⟨p1, hp1⟩ : ∃ p1, p1 = decide (id = 0) := ⟨_, rfl⟩
  rw [← hp1] at HR
  have HP1 := Lib.hid hp1; clear hp1
  obtain ⟨p2, hp2⟩ : ∃ p2, p2 = decide (nm = ByteArray.empty) := ⟨_, rfl⟩
  rw [← hp2] at HR
  have HP2 := Lib.hid hp2; clear hp2
  obtain ⟨p4, hp4⟩ : ∃ p4, p4 = decide (n4 = 0) := ⟨_, rfl⟩
  rw [← hp4] at HR
  have HP4 := Lib.hid hp4; clear hp4
  obtain ⟨p5, hp5⟩ : ∃ p5, p5 = decide (n5 = 0) := ⟨_, rfl⟩
  rw [← hp5] at HR
  have HP5 := Lib.hid hp5; clear hp5
  go_enter Try.func17, Try.ntmps17
  go_wp2_with fail
  refine (has_c (k := 6) (c := 105)).mono ?_
  rw [show hasF 6 105 = false by decide]
  rintro e w1 ⟨rfl, hb1⟩
  (obtain ⟨hc_w1, hf_w1⟩ := bcell hb1; have z_w1_0 : w.heap.size < w1.heap.size := (by have := hb1.size; first | omega | (simp at this; omega)))
  go_wp2_with fail
  refine (has_c (k := 6) (c := 110)).mono ?_
  rw [show hasF 6 110 = false by decide]
  rintro e w2 ⟨rfl, hb2⟩
  (obtain ⟨hc_w2, hf_w2⟩ := bcell hb2; have z_w2_0 : w.heap.size < w2.heap.size := (by have := hb2.size; first | omega | (simp at this; omega)))
  go_wp2_with fail
  refine (has_c (k := 6) (c := 100)).mono ?_
  rw [show hasF 6 100 = true by decide]
  rintro e w3 ⟨rfl, hb3⟩
  (obtain ⟨hc_w3, hf_w3⟩ := bcell hb3; have z_w3_0 : w.heap.size < w3.heap.size := (by have := hb3.size; first | omega | (simp at this; omega)))
  cases q3 with
  | false =>
    have hd1 := of_decide_eq_false HQ3.out.symm
    go_wp2
    go_ret
    exact ⟨by rw [HR.out]; rfl, (by repeat' (first | (with_reducible exact Below.refl _ _) | (with_reducible refine Below.alloc ?_ ?_ _) | (with_reducible refine Below.drew ?_) | (with_reducible refine below_drewN ?_ _) | (with_reducible refine Below.setCell ?_ ?_ _) | (refine via ?_ (by with_reducible assumption) ?_) | (refine via ?_ (below_ext _ _) ?_) | go_size))⟩
  | true =>
    have hd1 := of_decide_eq_true HQ3.out.symm
    go_wp2_with fail
    refine (has_c (k := 6) (c := 108)).mono ?_
    rw [show hasF 6 108 = false by decide]
    rintro e w4 ⟨rfl, hb4⟩
    (obtain ⟨hc_w4, hf_w4⟩ := bcell hb4; have z_w4_0 : w.heap.size < w4.heap.size := (by have := hb4.size; first | omega | (simp at this; omega)))
    go_wp2_with fail
    refine (has_c (k := 6) (c := 115)).mono ?_
    rw [show hasF 6 115 = false by decide]
    rintro e w5 ⟨rfl, hb5⟩
    (obtain ⟨hc_w5, hf_w5⟩ := bcell hb5; have z_w5_0 : w.heap.size < w5.heap.size := (by have := hb5.size; first | omega | (simp at this; omega)))
    go_wp2_with fail
    refine (has_c (k := 6) (c := 105)).mono ?_
    rw [show hasF 6 105 = false by decide]
    rintro e w6 ⟨rfl, hb6⟩
    (obtain ⟨hc_w6, hf_w6⟩ := bcell hb6; have z_w6_0 : w.heap.size < w6.heap.size := (by have := hb6.size; first | omega | (simp at this; omega)))
    cases p1 with
    | false =>
      have ht := of_decide_eq_false HP1.out.symm
      go_wp2
      go_ret
      exact ⟨by rw [HR.out]; rfl, (by repeat' (first | (with_reducible exact Below.refl _ _) | (with_reducible refine Below.alloc ?_ ?_ _) | (with_reducible refine Below.drew ?_) | (with_reducible refine below_drewN ?_ _) | (with_reducible refine Below.setCell ?_ ?_ _) | (refine via ?_ (by with_reducible assumption) ?_) | (refine via ?_ (below_ext _ _) ?_) | go_size))⟩
    | true =>
      have ht := of_decide_eq_true HP1.out.symm
      subst ht
      go_wp2_with fail
      refine (has_c (k := 6) (c := 110)).mono ?_
      rw [show hasF 6 110 = false by decide]
      rintro e w7 ⟨rfl, hb7⟩
      (obtain ⟨hc_w7, hf_w7⟩ := bcell hb7; have z_w7_0 : w.heap.size < w7.heap.size := (by have := hb7.size; first | omega | (simp at this; omega)))
      cases p2 with
      | false =>
        have ht : ¬ nm.toList = [] := fun e => of_decide_eq_false HP2.out.symm ((str_nil _).1 e)
        go_wp2
        go_ret
        exact ⟨by rw [HR.out]; rfl, (by repeat' (first | (with_reducible exact Below.refl _ _) | (with_reducible refine Below.alloc ?_ ?_ _) | (with_reducible refine Below.drew ?_) | (with_reducible refine below_drewN ?_ _) | (with_reducible refine Below.setCell ?_ ?_ _) | (refine via ?_ (by with_reducible assumption) ?_) | (refine via ?_ (below_ext _ _) ?_) | go_size))⟩
      | true =>
        have ht : nm.toList = [] := (str_nil _).2 (of_decide_eq_true HP2.out.symm)
        go_wp2_with fail
        refine (has_c (k := 6) (c := 100)).mono ?_
        rw [show hasF 6 100 = true by decide]
        rintro e w8 ⟨rfl, hb8⟩
        (obtain ⟨hc_w8, hf_w8⟩ := bcell hb8; have z_w8_0 : w.heap.size < w8.heap.size := (by have := hb8.size; first | omega | (simp at this; omega)))
        go_wp2_with fail
        refine (has_c (k := 6) (c := 108)).mono ?_
        rw [show hasF 6 108 = false by decide]
        rintro e w9 ⟨rfl, hb9⟩
        (obtain ⟨hc_w9, hf_w9⟩ := bcell hb9; have z_w9_0 : w.heap.size < w9.heap.size := (by have := hb9.size; first | omega | (simp at this; omega)))
        cases p4 with
        | false =>
          have ht := of_decide_eq_false HP4.out.symm
          go_wp2
          go_ret
          exact ⟨by rw [HR.out]; rfl, (by repeat' (first | (with_reducible exact Below.refl _ _) | (with_reducible refine Below.alloc ?_ ?_ _) | (with_reducible refine Below.drew ?_) | (with_reducible refine below_drewN ?_ _) | (with_reducible refine Below.setCell ?_ ?_ _) | (refine via ?_ (by with_reducible assumption) ?_) | (refine via ?_ (below_ext _ _) ?_) | go_size))⟩
        | true =>
          have ht := of_decide_eq_true HP4.out.symm
          subst ht
          go_wp2_with fail
          refine (has_c (k := 6) (c := 115)).mono ?_
          rw [show hasF 6 115 = false by decide]
          rintro e w10 ⟨rfl, hb10⟩
          (obtain ⟨hc_w10, hf_w10⟩ := bcell hb10; have z_w10_0 : w.heap.size < w10.heap.size := (by have := hb10.size; first | omega | (simp at this; omega)))
          cases p5 with
          | false =>
            have ht0 := of_decide_eq_false HP5.out.symm
            have ht : ((n5 : Int) == 0) = false := by simp; omega
            clear ht0
            go_wp2
            go_ret
            exact ⟨by rw [HR.out]; rfl, (by repeat' (first | (with_reducible exact Below.refl _ _) | (with_reducible refine Below.alloc ?_ ?_ _) | (with_reducible refine Below.drew ?_) | (with_reducible refine below_drewN ?_ _) | (with_reducible refine Below.setCell ?_ ?_ _) | (refine via ?_ (by with_reducible assumption) ?_) | (refine via ?_ (below_ext _ _) ?_) | go_size))⟩
          | true =>
            have ht := of_decide_eq_true HP5.out.symm
            subst ht
            go_wp2
            go_ret
            exact ⟨by rw [HR.out]; rfl, (by repeat' (first | (with_reducible exact Below.refl _ _) | (with_reducible refine Below.alloc ?_ ?_ _) | (with_reducible refine Below.drew ?_) | (with_reducible refine below_drewN ?_ _) | (with_reducible refine Below.setCell ?_ ?_ _) | (refine via ?_ (by with_reducible assumption) ?_) | (refine via ?_ (below_ext _ _) ?_) | go_size))⟩
set_option maxRecDepth 100000 in
set_option maxHeartbeats 8000000 in
theorem recMay7_c {tg : Bool} {S : Nat → Prop} {w : World} {A4 A5 : Option Addr} {n4 c4 n5 c5 : Nat} {id : Int} {nm dg : ByteArray} {li : List Int} {sl : List Slot} (hl : Sl tg 3 intE w S A4 n4 c4 li) (hs : Sl tg 67 slotE w S A5 n5 c5 sl) :
    Calls Try.prog 17 #[.agg #[.int .i64 7, .int .i64 id, .string nm, .string dg, .slice A4 n4 c4, .slice A5 n5 c5]] w (RetV (.bool (recOk ⟨7, id, nm, dg, li, sl⟩)) w) := by
  have HLN := Lib.hid hl.len
  have HSN := Lib.hid hs.len
  have hcap4 : n4 ≤ 9223372036854775807 := Nat.le_trans hl.le hl.cap
  have hcap5 : n5 ≤ 9223372036854775807 := Nat.le_trans hs.le hs.cap
  have HL := Lib.hid (fun W (hW : Below w.heap.size w W) => list_c (kd := 7) (id := id) (nm := nm) (dg := dg) (B := A5) (n5 := n5) (c5 := c5) (hl.all hW))
  have HS := Lib.hid (fun W (hW : Below w.heap.size w W) => places_c (hs.all hW))
  obtain ⟨R, hR⟩ : ∃ R, R = recOk ⟨7, id, nm, dg, li, sl⟩ := ⟨_, rfl⟩
  rw [← hR]
  have HR : Hid (R = (decide (1 ≤ nm.size ∧ nm.size ≤ 40) && (decide (dg.size = 32) && (decide (id = 0) && (decide (n4 = 0) && (decide (n5 = 0))))))) := Lib.hid (by
    rw [hR]; unfold recOk
    simp only [show hasF 7 105 = false by decide, show hasF 7 110 = true by decide, show hasF 7 100 = true by decide, show hasF 7 108 = false by decide, show hasF 7 115 = false by decide, HLN.out, HSN.out]
    simp)
  clear hR hl hs
  obtain ⟨q2, hq2⟩ : ∃ q2, q2 = decide (1 ≤ nm.size ∧ nm.size ≤ 40) := ⟨_, rfl⟩
  rw [← hq2] at HR
  have HQ2 := Lib.hid hq2; clear hq2
  obtain ⟨q3, hq3⟩ : ∃ q3, q3 = decide (dg.size = 32) := ⟨_, rfl⟩
  rw [← hq3] at HR
  have HQ3 := Lib.hid hq3; clear hq3
  obtain ⟨p1, hp1⟩ : ∃ p1, p1 = decide (id = 0) := ⟨_, rfl⟩
  rw [← hp1] at HR
  have HP1 := Lib.hid hp1; clear hp1
  obtain ⟨p4, hp4⟩ : ∃ p4, p4 = decide (n4 = 0) := ⟨_, rfl⟩
  rw [← hp4] at HR
  have HP4 := Lib.hid hp4; clear hp4
  obtain ⟨p5, hp5⟩ : ∃ p5, p5 = decide (n5 = 0) := ⟨_, rfl⟩
  rw [← hp5] at HR
  have HP5 := Lib.hid hp5; clear hp5
  go_enter Try.func17, Try.ntmps17
  go_wp2_with fail
  refine (has_c (k := 7) (c := 105)).mono ?_
  rw [show hasF 7 105 = false by decide]
  rintro e w1 ⟨rfl, hb1⟩
  (obtain ⟨hc_w1, hf_w1⟩ := bcell hb1; have z_w1_0 : w.heap.size < w1.heap.size := (by have := hb1.size; first | omega | (simp at this; omega)))
  go_wp2_with fail
  refine (has_c (k := 7) (c := 110)).mono ?_
  rw [show hasF 7 110 = true by decide]
  rintro e w2 ⟨rfl, hb2⟩
  (obtain ⟨hc_w2, hf_w2⟩ := bcell hb2; have z_w2_0 : w.heap.size < w2.heap.size := (by have := hb2.size; first | omega | (simp at this; omega)))
  cases q2 with
  | false =>
    have hz := of_decide_eq_false HQ2.out.symm
    by_cases hz1 : nm.size < 1
    · have hz2 : nm.size = 0 := by omega
      clear hz hz1
      go_wp2
      go_ret
      exact ⟨by rw [HR.out]; rfl, (by repeat' (first | (with_reducible exact Below.refl _ _) | (with_reducible refine Below.alloc ?_ ?_ _) | (with_reducible refine Below.drew ?_) | (with_reducible refine below_drewN ?_ _) | (with_reducible refine Below.setCell ?_ ?_ _) | (refine via ?_ (by with_reducible assumption) ?_) | (refine via ?_ (below_ext _ _) ?_) | go_size))⟩
    · have hz2 : ¬ nm.size ≤ 40 := by omega
      clear hz
      go_wp2
      go_ret
      exact ⟨by rw [HR.out]; rfl, (by repeat' (first | (with_reducible exact Below.refl _ _) | (with_reducible refine Below.alloc ?_ ?_ _) | (with_reducible refine Below.drew ?_) | (with_reducible refine below_drewN ?_ _) | (with_reducible refine Below.setCell ?_ ?_ _) | (refine via ?_ (by with_reducible assumption) ?_) | (refine via ?_ (below_ext _ _) ?_) | go_size))⟩
  | true =>
    have hz1 := (of_decide_eq_true HQ2.out.symm).1
    have hz2 := (of_decide_eq_true HQ2.out.symm).2
    go_wp2_with fail
    refine (has_c (k := 7) (c := 100)).mono ?_
    rw [show hasF 7 100 = true by decide]
    rintro e w3 ⟨rfl, hb3⟩
    (obtain ⟨hc_w3, hf_w3⟩ := bcell hb3; have z_w3_0 : w.heap.size < w3.heap.size := (by have := hb3.size; first | omega | (simp at this; omega)))
    cases q3 with
    | false =>
      have hd1 := of_decide_eq_false HQ3.out.symm
      have hd2 : ((dg.size : Int) != 32) = true := by simp; omega
      clear hd1
      go_wp2
      go_ret
      exact ⟨by rw [HR.out]; rfl, (by repeat' (first | (with_reducible exact Below.refl _ _) | (with_reducible refine Below.alloc ?_ ?_ _) | (with_reducible refine Below.drew ?_) | (with_reducible refine below_drewN ?_ _) | (with_reducible refine Below.setCell ?_ ?_ _) | (refine via ?_ (by with_reducible assumption) ?_) | (refine via ?_ (below_ext _ _) ?_) | go_size))⟩
    | true =>
      have hd1 := of_decide_eq_true HQ3.out.symm
      go_wp2_with fail
      refine (has_c (k := 7) (c := 108)).mono ?_
      rw [show hasF 7 108 = false by decide]
      rintro e w4 ⟨rfl, hb4⟩
      (obtain ⟨hc_w4, hf_w4⟩ := bcell hb4; have z_w4_0 : w.heap.size < w4.heap.size := (by have := hb4.size; first | omega | (simp at this; omega)))
      go_wp2_with fail
      refine (has_c (k := 7) (c := 115)).mono ?_
      rw [show hasF 7 115 = false by decide]
      rintro e w5 ⟨rfl, hb5⟩
      (obtain ⟨hc_w5, hf_w5⟩ := bcell hb5; have z_w5_0 : w.heap.size < w5.heap.size := (by have := hb5.size; first | omega | (simp at this; omega)))
      go_wp2_with fail
      refine (has_c (k := 7) (c := 105)).mono ?_
      rw [show hasF 7 105 = false by decide]
      rintro e w6 ⟨rfl, hb6⟩
      (obtain ⟨hc_w6, hf_w6⟩ := bcell hb6; have z_w6_0 : w.heap.size < w6.heap.size := (by have := hb6.size; first | omega | (simp at this; omega)))
      cases p1 with
      | false =>
        have ht := of_decide_eq_false HP1.out.symm
        go_wp2
        go_ret
        exact ⟨by rw [HR.out]; rfl, (by repeat' (first | (with_reducible exact Below.refl _ _) | (with_reducible refine Below.alloc ?_ ?_ _) | (with_reducible refine Below.drew ?_) | (with_reducible refine below_drewN ?_ _) | (with_reducible refine Below.setCell ?_ ?_ _) | (refine via ?_ (by with_reducible assumption) ?_) | (refine via ?_ (below_ext _ _) ?_) | go_size))⟩
      | true =>
        have ht := of_decide_eq_true HP1.out.symm
        subst ht
        go_wp2_with fail
        refine (has_c (k := 7) (c := 110)).mono ?_
        rw [show hasF 7 110 = true by decide]
        rintro e w7 ⟨rfl, hb7⟩
        (obtain ⟨hc_w7, hf_w7⟩ := bcell hb7; have z_w7_0 : w.heap.size < w7.heap.size := (by have := hb7.size; first | omega | (simp at this; omega)))
        go_wp2_with fail
        refine (has_c (k := 7) (c := 100)).mono ?_
        rw [show hasF 7 100 = true by decide]
        rintro e w8 ⟨rfl, hb8⟩
        (obtain ⟨hc_w8, hf_w8⟩ := bcell hb8; have z_w8_0 : w.heap.size < w8.heap.size := (by have := hb8.size; first | omega | (simp at this; omega)))
        go_wp2_with fail
        refine (has_c (k := 7) (c := 108)).mono ?_
        rw [show hasF 7 108 = false by decide]
        rintro e w9 ⟨rfl, hb9⟩
        (obtain ⟨hc_w9, hf_w9⟩ := bcell hb9; have z_w9_0 : w.heap.size < w9.heap.size := (by have := hb9.size; first | omega | (simp at this; omega)))
        cases p4 with
        | false =>
          have ht := of_decide_eq_false HP4.out.symm
          go_wp2
          go_ret
          exact ⟨by rw [HR.out]; rfl, (by repeat' (first | (with_reducible exact Below.refl _ _) | (with_reducible refine Below.alloc ?_ ?_ _) | (with_reducible refine Below.drew ?_) | (with_reducible refine below_drewN ?_ _) | (with_reducible refine Below.setCell ?_ ?_ _) | (refine via ?_ (by with_reducible assumption) ?_) | (refine via ?_ (below_ext _ _) ?_) | go_size))⟩
        | true =>
          have ht := of_decide_eq_true HP4.out.symm
          subst ht
          go_wp2_with fail
          refine (has_c (k := 7) (c := 115)).mono ?_
          rw [show hasF 7 115 = false by decide]
          rintro e w10 ⟨rfl, hb10⟩
          (obtain ⟨hc_w10, hf_w10⟩ := bcell hb10; have z_w10_0 : w.heap.size < w10.heap.size := (by have := hb10.size; first | omega | (simp at this; omega)))
          cases p5 with
          | false =>
            have ht0 := of_decide_eq_false HP5.out.symm
            have ht : ((n5 : Int) == 0) = false := by simp; omega
            clear ht0
            go_wp2
            go_ret
            exact ⟨by rw [HR.out]; rfl, (by repeat' (first | (with_reducible exact Below.refl _ _) | (with_reducible refine Below.alloc ?_ ?_ _) | (with_reducible refine Below.drew ?_) | (with_reducible refine below_drewN ?_ _) | (with_reducible refine Below.setCell ?_ ?_ _) | (refine via ?_ (by with_reducible assumption) ?_) | (refine via ?_ (below_ext _ _) ?_) | go_size))⟩
          | true =>
            have ht := of_decide_eq_true HP5.out.symm
            subst ht
            go_wp2
            go_ret
            exact ⟨by rw [HR.out]; rfl, (by repeat' (first | (with_reducible exact Below.refl _ _) | (with_reducible refine Below.alloc ?_ ?_ _) | (with_reducible refine Below.drew ?_) | (with_reducible refine below_drewN ?_ _) | (with_reducible refine Below.setCell ?_ ?_ _) | (refine via ?_ (by with_reducible assumption) ?_) | (refine via ?_ (below_ext _ _) ?_) | go_size))⟩
set_option maxRecDepth 100000 in
set_option maxHeartbeats 8000000 in
theorem recMay8_c {tg : Bool} {S : Nat → Prop} {w : World} {A4 A5 : Option Addr} {n4 c4 n5 c5 : Nat} {id : Int} {nm dg : ByteArray} {li : List Int} {sl : List Slot} (hl : Sl tg 3 intE w S A4 n4 c4 li) (hs : Sl tg 67 slotE w S A5 n5 c5 sl) :
    Calls Try.prog 17 #[.agg #[.int .i64 8, .int .i64 id, .string nm, .string dg, .slice A4 n4 c4, .slice A5 n5 c5]] w (RetV (.bool (recOk ⟨8, id, nm, dg, li, sl⟩)) w) := by
  have HLN := Lib.hid hl.len
  have HSN := Lib.hid hs.len
  have hcap4 : n4 ≤ 9223372036854775807 := Nat.le_trans hl.le hl.cap
  have hcap5 : n5 ≤ 9223372036854775807 := Nat.le_trans hs.le hs.cap
  have HL := Lib.hid (fun W (hW : Below w.heap.size w W) => list_c (kd := 8) (id := id) (nm := nm) (dg := dg) (B := A5) (n5 := n5) (c5 := c5) (hl.all hW))
  have HS := Lib.hid (fun W (hW : Below w.heap.size w W) => places_c (hs.all hW))
  obtain ⟨R, hR⟩ : ∃ R, R = recOk ⟨8, id, nm, dg, li, sl⟩ := ⟨_, rfl⟩
  rw [← hR]
  have HR : Hid (R = (decide (1 ≤ nm.size ∧ nm.size ≤ 40) && (decide (id = 0) && (decide (dg = ByteArray.empty) && (decide (n4 = 0) && (decide (n5 = 0))))))) := Lib.hid (by
    rw [hR]; unfold recOk
    simp only [show hasF 8 105 = false by decide, show hasF 8 110 = true by decide, show hasF 8 100 = false by decide, show hasF 8 108 = false by decide, show hasF 8 115 = false by decide, HLN.out, HSN.out]
    simp)
  clear hR hl hs
  obtain ⟨q2, hq2⟩ : ∃ q2, q2 = decide (1 ≤ nm.size ∧ nm.size ≤ 40) := ⟨_, rfl⟩
  rw [← hq2] at HR
  have HQ2 := Lib.hid hq2; clear hq2
  obtain ⟨p1, hp1⟩ : ∃ p1, p1 = decide (id = 0) := ⟨_, rfl⟩
  rw [← hp1] at HR
  have HP1 := Lib.hid hp1; clear hp1
  obtain ⟨p3, hp3⟩ : ∃ p3, p3 = decide (dg = ByteArray.empty) := ⟨_, rfl⟩
  rw [← hp3] at HR
  have HP3 := Lib.hid hp3; clear hp3
  obtain ⟨p4, hp4⟩ : ∃ p4, p4 = decide (n4 = 0) := ⟨_, rfl⟩
  rw [← hp4] at HR
  have HP4 := Lib.hid hp4; clear hp4
  obtain ⟨p5, hp5⟩ : ∃ p5, p5 = decide (n5 = 0) := ⟨_, rfl⟩
  rw [← hp5] at HR
  have HP5 := Lib.hid hp5; clear hp5
  go_enter Try.func17, Try.ntmps17
  go_wp2_with fail
  refine (has_c (k := 8) (c := 105)).mono ?_
  rw [show hasF 8 105 = false by decide]
  rintro e w1 ⟨rfl, hb1⟩
  (obtain ⟨hc_w1, hf_w1⟩ := bcell hb1; have z_w1_0 : w.heap.size < w1.heap.size := (by have := hb1.size; first | omega | (simp at this; omega)))
  go_wp2_with fail
  refine (has_c (k := 8) (c := 110)).mono ?_
  rw [show hasF 8 110 = true by decide]
  rintro e w2 ⟨rfl, hb2⟩
  (obtain ⟨hc_w2, hf_w2⟩ := bcell hb2; have z_w2_0 : w.heap.size < w2.heap.size := (by have := hb2.size; first | omega | (simp at this; omega)))
  cases q2 with
  | false =>
    have hz := of_decide_eq_false HQ2.out.symm
    by_cases hz1 : nm.size < 1
    · have hz2 : nm.size = 0 := by omega
      clear hz hz1
      go_wp2
      go_ret
      exact ⟨by rw [HR.out]; rfl, (by repeat' (first | (with_reducible exact Below.refl _ _) | (with_reducible refine Below.alloc ?_ ?_ _) | (with_reducible refine Below.drew ?_) | (with_reducible refine below_drewN ?_ _) | (with_reducible refine Below.setCell ?_ ?_ _) | (refine via ?_ (by with_reducible assumption) ?_) | (refine via ?_ (below_ext _ _) ?_) | go_size))⟩
    · have hz2 : ¬ nm.size ≤ 40 := by omega
      clear hz
      go_wp2
      go_ret
      exact ⟨by rw [HR.out]; rfl, (by repeat' (first | (with_reducible exact Below.refl _ _) | (with_reducible refine Below.alloc ?_ ?_ _) | (with_reducible refine Below.drew ?_) | (with_reducible refine below_drewN ?_ _) | (with_reducible refine Below.setCell ?_ ?_ _) | (refine via ?_ (by with_reducible assumption) ?_) | (refine via ?_ (below_ext _ _) ?_) | go_size))⟩
  | true =>
    have hz1 := (of_decide_eq_true HQ2.out.symm).1
    have hz2 := (of_decide_eq_true HQ2.out.symm).2
    go_wp2_with fail
    refine (has_c (k := 8) (c := 100)).mono ?_
    rw [show hasF 8 100 = false by decide]
    rintro e w3 ⟨rfl, hb3⟩
    (obtain ⟨hc_w3, hf_w3⟩ := bcell hb3; have z_w3_0 : w.heap.size < w3.heap.size := (by have := hb3.size; first | omega | (simp at this; omega)))
    go_wp2_with fail
    refine (has_c (k := 8) (c := 108)).mono ?_
    rw [show hasF 8 108 = false by decide]
    rintro e w4 ⟨rfl, hb4⟩
    (obtain ⟨hc_w4, hf_w4⟩ := bcell hb4; have z_w4_0 : w.heap.size < w4.heap.size := (by have := hb4.size; first | omega | (simp at this; omega)))
    go_wp2_with fail
    refine (has_c (k := 8) (c := 115)).mono ?_
    rw [show hasF 8 115 = false by decide]
    rintro e w5 ⟨rfl, hb5⟩
    (obtain ⟨hc_w5, hf_w5⟩ := bcell hb5; have z_w5_0 : w.heap.size < w5.heap.size := (by have := hb5.size; first | omega | (simp at this; omega)))
    go_wp2_with fail
    refine (has_c (k := 8) (c := 105)).mono ?_
    rw [show hasF 8 105 = false by decide]
    rintro e w6 ⟨rfl, hb6⟩
    (obtain ⟨hc_w6, hf_w6⟩ := bcell hb6; have z_w6_0 : w.heap.size < w6.heap.size := (by have := hb6.size; first | omega | (simp at this; omega)))
    cases p1 with
    | false =>
      have ht := of_decide_eq_false HP1.out.symm
      go_wp2
      go_ret
      exact ⟨by rw [HR.out]; rfl, (by repeat' (first | (with_reducible exact Below.refl _ _) | (with_reducible refine Below.alloc ?_ ?_ _) | (with_reducible refine Below.drew ?_) | (with_reducible refine below_drewN ?_ _) | (with_reducible refine Below.setCell ?_ ?_ _) | (refine via ?_ (by with_reducible assumption) ?_) | (refine via ?_ (below_ext _ _) ?_) | go_size))⟩
    | true =>
      have ht := of_decide_eq_true HP1.out.symm
      subst ht
      go_wp2_with fail
      refine (has_c (k := 8) (c := 110)).mono ?_
      rw [show hasF 8 110 = true by decide]
      rintro e w7 ⟨rfl, hb7⟩
      (obtain ⟨hc_w7, hf_w7⟩ := bcell hb7; have z_w7_0 : w.heap.size < w7.heap.size := (by have := hb7.size; first | omega | (simp at this; omega)))
      go_wp2_with fail
      refine (has_c (k := 8) (c := 100)).mono ?_
      rw [show hasF 8 100 = false by decide]
      rintro e w8 ⟨rfl, hb8⟩
      (obtain ⟨hc_w8, hf_w8⟩ := bcell hb8; have z_w8_0 : w.heap.size < w8.heap.size := (by have := hb8.size; first | omega | (simp at this; omega)))
      cases p3 with
      | false =>
        have ht : ¬ dg.toList = [] := fun e => of_decide_eq_false HP3.out.symm ((str_nil _).1 e)
        go_wp2
        go_ret
        exact ⟨by rw [HR.out]; rfl, (by repeat' (first | (with_reducible exact Below.refl _ _) | (with_reducible refine Below.alloc ?_ ?_ _) | (with_reducible refine Below.drew ?_) | (with_reducible refine below_drewN ?_ _) | (with_reducible refine Below.setCell ?_ ?_ _) | (refine via ?_ (by with_reducible assumption) ?_) | (refine via ?_ (below_ext _ _) ?_) | go_size))⟩
      | true =>
        have ht : dg.toList = [] := (str_nil _).2 (of_decide_eq_true HP3.out.symm)
        go_wp2_with fail
        refine (has_c (k := 8) (c := 108)).mono ?_
        rw [show hasF 8 108 = false by decide]
        rintro e w9 ⟨rfl, hb9⟩
        (obtain ⟨hc_w9, hf_w9⟩ := bcell hb9; have z_w9_0 : w.heap.size < w9.heap.size := (by have := hb9.size; first | omega | (simp at this; omega)))
        cases p4 with
        | false =>
          have ht := of_decide_eq_false HP4.out.symm
          go_wp2
          go_ret
          exact ⟨by rw [HR.out]; rfl, (by repeat' (first | (with_reducible exact Below.refl _ _) | (with_reducible refine Below.alloc ?_ ?_ _) | (with_reducible refine Below.drew ?_) | (with_reducible refine below_drewN ?_ _) | (with_reducible refine Below.setCell ?_ ?_ _) | (refine via ?_ (by with_reducible assumption) ?_) | (refine via ?_ (below_ext _ _) ?_) | go_size))⟩
        | true =>
          have ht := of_decide_eq_true HP4.out.symm
          subst ht
          go_wp2_with fail
          refine (has_c (k := 8) (c := 115)).mono ?_
          rw [show hasF 8 115 = false by decide]
          rintro e w10 ⟨rfl, hb10⟩
          (obtain ⟨hc_w10, hf_w10⟩ := bcell hb10; have z_w10_0 : w.heap.size < w10.heap.size := (by have := hb10.size; first | omega | (simp at this; omega)))
          cases p5 with
          | false =>
            have ht0 := of_decide_eq_false HP5.out.symm
            have ht : ((n5 : Int) == 0) = false := by simp; omega
            clear ht0
            go_wp2
            go_ret
            exact ⟨by rw [HR.out]; rfl, (by repeat' (first | (with_reducible exact Below.refl _ _) | (with_reducible refine Below.alloc ?_ ?_ _) | (with_reducible refine Below.drew ?_) | (with_reducible refine below_drewN ?_ _) | (with_reducible refine Below.setCell ?_ ?_ _) | (refine via ?_ (by with_reducible assumption) ?_) | (refine via ?_ (below_ext _ _) ?_) | go_size))⟩
          | true =>
            have ht := of_decide_eq_true HP5.out.symm
            subst ht
            go_wp2
            go_ret
            exact ⟨by rw [HR.out]; rfl, (by repeat' (first | (with_reducible exact Below.refl _ _) | (with_reducible refine Below.alloc ?_ ?_ _) | (with_reducible refine Below.drew ?_) | (with_reducible refine below_drewN ?_ _) | (with_reducible refine Below.setCell ?_ ?_ _) | (refine via ?_ (by with_reducible assumption) ?_) | (refine via ?_ (below_ext _ _) ?_) | go_size))⟩
set_option maxRecDepth 100000 in
set_option maxHeartbeats 4000000 in
theorem recMay_c {tg : Bool} {S : Nat → Prop} {w : World} {A4 A5 : Option Addr} {n4 c4 n5 c5 : Nat} {r : Record} (hl : Sl tg 3 intE w S A4 n4 c4 r.list) (hs : Sl tg 67 slotE w S A5 n5 c5 r.slots) :
    Calls Try.prog 17 #[.agg #[.int .i64 r.kind, .int .i64 r.id, .string r.name, .string r.digest, .slice A4 n4 c4, .slice A5 n5 c5]] w (RetV (.bool (recOk r)) w) := by
  obtain ⟨k, id, nm, dg, li, sl⟩ := r
  simp only at hl hs ⊢
  by_cases h1 : k < 1
  · have HE : Hid (recOk ⟨k, id, nm, dg, li, sl⟩ = false) := Lib.hid (by unfold recOk; rw [decide_eq_false (by simp only; omega)]; rfl)
    generalize recOk ⟨k, id, nm, dg, li, sl⟩ = R at *
    clear hl hs
    go_enter Try.func17, Try.ntmps17
    go_wp2
    go_ret
    exact ⟨by rw [HE.out]; rfl, (by repeat' (first | (with_reducible exact Below.refl _ _) | (with_reducible refine Below.alloc ?_ ?_ _) | (with_reducible refine Below.drew ?_) | (with_reducible refine below_drewN ?_ _) | (with_reducible refine Below.setCell ?_ ?_ _) | (refine via ?_ (by with_reducible assumption) ?_) | (refine via ?_ (below_ext _ _) ?_) | go_size))⟩
  · by_cases h2 : 8 < k
    · have HE : Hid (recOk ⟨k, id, nm, dg, li, sl⟩ = false) := Lib.hid (by unfold recOk; rw [decide_eq_false (by simp only; omega)]; rfl)
      generalize recOk ⟨k, id, nm, dg, li, sl⟩ = R at *
      clear hl hs
      go_enter Try.func17, Try.ntmps17
      go_wp2
      go_ret
      exact ⟨by rw [HE.out]; rfl, (by repeat' (first | (with_reducible exact Below.refl _ _) | (with_reducible refine Below.alloc ?_ ?_ _) | (with_reducible refine Below.drew ?_) | (with_reducible refine below_drewN ?_ _) | (with_reducible refine Below.setCell ?_ ?_ _) | (refine via ?_ (by with_reducible assumption) ?_) | (refine via ?_ (below_ext _ _) ?_) | go_size))⟩
    · rcases (by omega : k = 1 ∨ k = 2 ∨ k = 3 ∨ k = 4 ∨ k = 5 ∨ k = 6 ∨ k = 7 ∨ k = 8) with h | h | h | h | h | h | h | h <;> subst h
      · exact recMay1_c hl hs
      · exact recMay2_c hl hs
      · exact recMay3_c hl hs
      · exact recMay4_c hl hs
      · exact recMay5_c hl hs
      · exact recMay6_c hl hs
      · exact recMay7_c hl hs
      · exact recMay8_c hl hs
end Go.Proofs.Ytipecejghioicaa
