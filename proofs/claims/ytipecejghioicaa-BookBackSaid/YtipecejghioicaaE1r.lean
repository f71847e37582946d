/- Which shapes, slots and stripes may be: the program's answer (code.May, place.May). Printed by gen_e1.py. -/
import Derived.Test.YtipecejghioicaaS3r
import Derived.Test.YtipecejghioicaaZdr
namespace Go.Proofs.Ytipecejghioicaa
open Go.RowKit Go.Silo

def shapeOk (s : Shape) : Bool := decide (1 ≤ s.K ∧ s.K ≤ 8 ∧ 0 ≤ s.M ∧ s.M ≤ 6 ∧ 1 ≤ s.size ∧ s.size ≤ 120)
def numOk (n : Int) : Bool := decide (0 ≤ n ∧ n ≤ 1073741824)
def slotOk (p : Slot) : Bool := decide ((0 ≤ p.disk ∧ p.disk ≤ 11 ∧ 0 ≤ p.pos ∧ p.pos ≤ 63) ∨ (p.disk = -1 ∧ p.pos = 0))
def sameDisk (d : Int) (p : Slot) : Bool := p.disk == d
/-- Slot number i lies on no disk of an earlier one. -/
def apartAt (l : List Slot) (i : Nat) : Bool := (l.getD i default).disk == -1 || !((l.take i).any (sameDisk (l.getD i default).disk))
def apartB (l : List Slot) : Bool := (List.range l.length).all (apartAt l)
theorem apartB_true {l : List Slot} (h : ∀ i, i < l.length → apartAt l i = true) : apartB l = true := List.all_eq_true.2 fun i hi => h i (List.mem_range.1 hi)
theorem apartB_false {l : List Slot} {i : Nat} (hi : i < l.length) (h : apartAt l i = false) : apartB l = false := by
  cases hh : apartB l with
  | false => rfl
  | true => have := List.all_eq_true.1 hh i (List.mem_range.2 hi); rw [h] at this; cases this
def stripeOk (s : Shape) (x : Stripe) : Bool :=
  (shapeOk s && numOk x.id && numOk x.gen && decide (1 ≤ x.len) && decide (x.len ≤ s.K * s.size) && decide ((x.place.length : Int) = s.K + s.M)) && (apartB x.place && !(x.place.any fun p => !slotOk p))

theorem codeMay_c {w : World} {s : Shape} : Calls Try.prog 18 #[.agg #[.int .i64 s.K, .int .i64 s.M, .int .i64 s.size]] w (RetV (.bool (shapeOk s)) w) := by
  have hr : shapeOk s = decide (1 ≤ s.K ∧ s.K ≤ 8 ∧ 0 ≤ s.M ∧ s.M ≤ 6 ∧ 1 ≤ s.size ∧ s.size ≤ 120) := rfl
  generalize shapeOk s = r at *
  have HR := Lib.hid hr; clear hr
  go_enter Try.func18, Try.ntmps18
  go_wp2
  all_goals
    go_ret
    exact ⟨by rw [HR.out]; congr 2; simp_all; try omega, (by repeat' (first | (with_reducible exact Below.refl _ _) | (with_reducible refine Below.alloc ?_ ?_ _) | (with_reducible refine Below.drew ?_) | (with_reducible refine below_drewN ?_ _) | (with_reducible refine Below.setCell ?_ ?_ _) | (refine via ?_ (by with_reducible assumption) ?_) | (refine via ?_ (below_ext _ _) ?_) | go_size))⟩
theorem number_c {w : World} {n : Int} : Calls Try.prog 75 #[.int .i64 n] w (RetV (.bool (numOk n)) w) := by
  have hr : numOk n = decide (0 ≤ n ∧ n ≤ 1073741824) := rfl
  generalize numOk n = r at *
  have HR := Lib.hid hr; clear hr
  go_enter Try.func75, Try.ntmps75
  go_wp2
  all_goals
    go_ret
    exact ⟨by rw [HR.out]; congr 2; simp_all; try omega, (by repeat' (first | (with_reducible exact Below.refl _ _) | (with_reducible refine Below.alloc ?_ ?_ _) | (with_reducible refine Below.drew ?_) | (with_reducible refine below_drewN ?_ _) | (with_reducible refine Below.setCell ?_ ?_ _) | (refine via ?_ (by with_reducible assumption) ?_) | (refine via ?_ (below_ext _ _) ?_) | go_size))⟩
theorem slot_c {w : World} {p : Slot} : Calls Try.prog 78 #[.agg #[.int .i64 p.disk, .int .i64 p.pos]] w (RetV (.bool (slotOk p)) w) := by
  have hr : slotOk p = decide ((0 ≤ p.disk ∧ p.disk ≤ 11 ∧ 0 ≤ p.pos ∧ p.pos ≤ 63) ∨ (p.disk = -1 ∧ p.pos = 0)) := rfl
  generalize slotOk p = r at *
  have HR := Lib.hid hr; clear hr
  by_cases h64 : p.pos < 64
  all_goals
    go_enter Try.func78, Try.ntmps78
    go_wp2
    all_goals
      go_ret
      exact ⟨by rw [HR.out]; first | (congr 2; simp_all; done) | (congr 2; simp_all; omega), (by repeat' (first | (with_reducible exact Below.refl _ _) | (with_reducible refine Below.alloc ?_ ?_ _) | (with_reducible refine Below.drew ?_) | (with_reducible refine below_drewN ?_ _) | (with_reducible refine Below.setCell ?_ ?_ _) | (refine via ?_ (by with_reducible assumption) ?_) | (refine via ?_ (below_ext _ _) ?_) | go_size))⟩
theorem placeMay1_c {w : World} {p : Slot} : Calls Try.prog 77 #[.agg #[.int .i64 p.disk, .int .i64 p.pos]] w (RetV (.bool (!slotOk p)) w) := by
  go_enter Try.func77, Try.ntmps77
  go_wp2_with fail
  refine slot_c.mono ?_
  rintro e w1 ⟨rfl, hb1⟩
  go_wp2
  go_ret
  exact ⟨rfl, (by repeat' (first | (with_reducible exact Below.refl _ _) | (with_reducible refine Below.alloc ?_ ?_ _) | (with_reducible refine Below.drew ?_) | (with_reducible refine below_drewN ?_ _) | (with_reducible refine Below.setCell ?_ ?_ _) | (refine via ?_ (by with_reducible assumption) ?_) | (refine via ?_ (below_ext _ _) ?_) | go_size))⟩
theorem apart1_c {w : World} {p : Slot} {a : Addr} {d : Int} (hs : a.spot = none) (hl : a.block < w.heap.size) (h : w.cell? a = some (.int .i64 d)) : Calls Try.prog 89 #[.agg #[.int .i64 p.disk, .int .i64 p.pos], .pointer (some a)] w (RetV (.bool (sameDisk d p)) w) := by
  obtain ⟨b, o, s⟩ := a
  obtain rfl : s = none := hs
  have hl' : b < w.heap.size := hl
  go_enter Try.func89, Try.ntmps89
  go_wp2
  go_ret
  exact ⟨rfl, (by repeat' (first | (with_reducible exact Below.refl _ _) | (with_reducible refine Below.alloc ?_ ?_ _) | (with_reducible refine Below.drew ?_) | (with_reducible refine below_drewN ?_ _) | (with_reducible refine Below.setCell ?_ ?_ _) | (refine via ?_ (by with_reducible assumption) ?_) | (refine via ?_ (below_ext _ _) ?_) | go_size))⟩
set_option maxHeartbeats 1000000 in
theorem IndexFunc_ok {tg : Bool} {T : TypeId} {S : Nat → Prop} {w : World} {A : Option Addr} {n c : Nat} {xs : List Slot} (h : Sl tg T slotE w S A n c xs) (p : Slot → Bool)
    (hp : ∀ (W : World) (x : Slot), Below w.heap.size w W → Calls Try.prog 77 #[.agg #[.int .i64 x.disk, .int .i64 x.pos]] W (RetV (.bool (p x)) W)) :
    Calls Try.prog 80 #[.slice A n c, .func (.func 77) #[] #[]] w (RetV (.int .i64 (idxOf p xs)) w) := by
  have HL := Lib.hid h.len
  have HP := Lib.hid hp; clear hp
  have hcap : n ≤ 9223372036854775807 := Nat.le_trans h.le h.cap
  go_enter Try.func80, Try.ntmps80
  go_wp2
  go_loopw [5, 8] (fun _ i wr => ∃ k : Nat, k ≤ n ∧ i = .int .i64 k ∧ Below w.heap.size w wr ∧ Hid (∀ j, j < k → p (xs.getD j default) = false)) (fun _ i _ => n - (intOf i).toNat)
  case atStart => exact ⟨0, Nat.zero_le _, rfl, Below.refl _ _, Lib.hid (fun j hj => by omega)⟩
  case round =>
    obtain ⟨k, hk, rfl, hB, he⟩ := hrel
    by_cases hlt : k < n
    · obtain ⟨b, off, rfl, hS, hbl, g1, g2, hc0, hc1, _⟩ := (h.all hB).slot_at hlt
      have hcall := HP.out wr (xs.getD k default) hB
      generalize hx : xs.getD k default = x at *
      have HX := Lib.hid hx; clear hx
      have HB := Lib.hid hB; clear hB
      have HC := Lib.hid hcall; clear hcall
      go_wp2_with fail
      refine HC.out.mono ?_
      rintro e w2 ⟨rfl, hb2⟩
      have HB2 := Lib.hid hb2; clear hb2
      cases hpx : p x with
      | true =>
        have HF : Hid (idxOf p xs = (k : Int)) := Lib.hid (idxOf_some (d := default) (by have := HL.out; omega) (by rw [HX.out]; exact hpx) he.out)
        clear hpx
        go_wp2
        go_ret
        exact ⟨by rw [HF.out]; rfl, via HB.out HB2.out (Nat.le_refl _)⟩
      | false =>
        have HF : Hid (∀ j, j < k + 1 → p (xs.getD j default) = false) := Lib.hid (fun j hj => by
          by_cases hjk : j = k
          · subst hjk; rw [HX.out]; exact hpx
          · exact he.out j (by omega))
        clear hpx
        go_wp2
        go_roundw
        case rel => exact ⟨k + 1, by omega, by go_num, via HB.out HB2.out (Nat.le_refl _), HF⟩
        case measure => simp [intOf]; omega
    · have HF : Hid (idxOf p xs = -1) := Lib.hid (idxOf_none (d := default) fun j hj => he.out j (by have := HL.out; omega))
      go_wp2
      go_ret
      exact ⟨by rw [HF.out]; rfl, hB⟩

set_option maxHeartbeats 400000 in
theorem ContainsFunc_ok {tg : Bool} {T : TypeId} {S : Nat → Prop} {w : World} {A : Option Addr} {n c : Nat} {xs : List Slot} (h : Sl tg T slotE w S A n c xs) (p : Slot → Bool)
    (hp : ∀ (W : World) (x : Slot), Below w.heap.size w W → Calls Try.prog 77 #[.agg #[.int .i64 x.disk, .int .i64 x.pos]] W (RetV (.bool (p x)) W)) :
    Calls Try.prog 58 #[.slice A n c, .func (.func 77) #[] #[]] w (RetV (.bool (xs.any p)) w) := by
  have HP := Lib.hid hp; clear hp
  have HQ := Lib.hid (idxOf_any (xs := xs) (p := p))
  go_enter Try.func58, Try.ntmps58
  go_wp2_with fail
  refine (IndexFunc_ok h p HP.out).mono ?_
  rintro e w2 ⟨rfl, hb2⟩
  generalize hi : idxOf p xs = i at *
  go_wp2
  all_goals
    go_ret
    refine ⟨?_, hb2⟩
    rw [HQ.out]
    first | rfl | (congr 2; simp_all; done) | (congr 2; simp_all; omega)

set_option maxHeartbeats 1000000 in
theorem IndexFunc_apart {tg : Bool} {T : TypeId} {S : Nat → Prop} {w : World} {A : Option Addr} {n c : Nat} {xs : List Slot} {a : Addr} (h : Sl tg T slotE w S A n c xs) (p : Slot → Bool)
    (hp : ∀ (W : World) (x : Slot), Below w.heap.size w W → Calls Try.prog 89 #[.agg #[.int .i64 x.disk, .int .i64 x.pos], .pointer (some a)] W (RetV (.bool (p x)) W)) :
    Calls Try.prog 80 #[.slice A n c, .func (.func 89) #[] #[.pointer (some a)]] w (RetV (.int .i64 (idxOf p xs)) w) := by
  have HL := Lib.hid h.len
  have HP := Lib.hid hp; clear hp
  have hcap : n ≤ 9223372036854775807 := Nat.le_trans h.le h.cap
  go_enter Try.func80, Try.ntmps80
  go_wp2
  go_loopw [5, 8] (fun _ i wr => ∃ k : Nat, k ≤ n ∧ i = .int .i64 k ∧ Below w.heap.size w wr ∧ Hid (∀ j, j < k → p (xs.getD j default) = false)) (fun _ i _ => n - (intOf i).toNat)
  case atStart => exact ⟨0, Nat.zero_le _, rfl, Below.refl _ _, Lib.hid (fun j hj => by omega)⟩
  case round =>
    obtain ⟨k, hk, rfl, hB, he⟩ := hrel
    by_cases hlt : k < n
    · obtain ⟨b, off, rfl, hS, hbl, g1, g2, hc0, hc1, _⟩ := (h.all hB).slot_at hlt
      have hcall := HP.out wr (xs.getD k default) hB
      generalize hx : xs.getD k default = x at *
      have HX := Lib.hid hx; clear hx
      have HB := Lib.hid hB; clear hB
      have HC := Lib.hid hcall; clear hcall
      go_wp2_with fail
      refine HC.out.mono ?_
      rintro e w2 ⟨rfl, hb2⟩
      have HB2 := Lib.hid hb2; clear hb2
      cases hpx : p x with
      | true =>
        have HF : Hid (idxOf p xs = (k : Int)) := Lib.hid (idxOf_some (d := default) (by have := HL.out; omega) (by rw [HX.out]; exact hpx) he.out)
        clear hpx
        go_wp2
        go_ret
        exact ⟨by rw [HF.out]; rfl, via HB.out HB2.out (Nat.le_refl _)⟩
      | false =>
        have HF : Hid (∀ j, j < k + 1 → p (xs.getD j default) = false) := Lib.hid (fun j hj => by
          by_cases hjk : j = k
          · subst hjk; rw [HX.out]; exact hpx
          · exact he.out j (by omega))
        clear hpx
        go_wp2
        go_roundw
        case rel => exact ⟨k + 1, by omega, by go_num, via HB.out HB2.out (Nat.le_refl _), HF⟩
        case measure => simp [intOf]; omega
    · have HF : Hid (idxOf p xs = -1) := Lib.hid (idxOf_none (d := default) fun j hj => he.out j (by have := HL.out; omega))
      go_wp2
      go_ret
      exact ⟨by rw [HF.out]; rfl, hB⟩

set_option maxHeartbeats 400000 in
theorem ContainsFunc_apart {tg : Bool} {T : TypeId} {S : Nat → Prop} {w : World} {A : Option Addr} {n c : Nat} {xs : List Slot} {a : Addr} (h : Sl tg T slotE w S A n c xs) (p : Slot → Bool)
    (hp : ∀ (W : World) (x : Slot), Below w.heap.size w W → Calls Try.prog 89 #[.agg #[.int .i64 x.disk, .int .i64 x.pos], .pointer (some a)] W (RetV (.bool (p x)) W)) :
    Calls Try.prog 58 #[.slice A n c, .func (.func 89) #[] #[.pointer (some a)]] w (RetV (.bool (xs.any p)) w) := by
  have HP := Lib.hid hp; clear hp
  have HQ := Lib.hid (idxOf_any (xs := xs) (p := p))
  go_enter Try.func58, Try.ntmps58
  go_wp2_with fail
  refine (IndexFunc_apart h p HP.out).mono ?_
  rintro e w2 ⟨rfl, hb2⟩
  generalize hi : idxOf p xs = i at *
  go_wp2
  all_goals
    go_ret
    refine ⟨?_, hb2⟩
    rw [HQ.out]
    first | rfl | (congr 2; simp_all; done) | (congr 2; simp_all; omega)

end Go.Proofs.Ytipecejghioicaa
