/- record.May: may a record be? Printed by gen_y10.py. -/
import Derived.Test.YtipecejghioicaaQ2r
import Derived.Test.YtipecejghioicaaE1r
import Derived.Test.YtipecejghioicaaS3r
import Derived.Laws.RangeString
import Derived.Laws.RangeAny
import Derived.Deep.CutBlock
import Derived.Deep.Cut
import Derived.Deep.Light
namespace Go.Proofs.Ytipecejghioicaa
open Go.RowKit Go.Silo
/-- The fields of a kind. -/
def fieldsB (k : Int) : ByteArray := if k = 1 then ⟨#[105, 115]⟩ else if k = 2 then ⟨#[105, 108, 115]⟩ else if k = 3 then ⟨#[105]⟩ else if k = 4 ∨ k = 5 then ⟨#[105, 100, 108]⟩ else if k = 6 then ⟨#[100]⟩ else if k = 7 then ⟨#[110, 100]⟩ else if k = 8 then ⟨#[110]⟩ else ⟨#[]⟩
/-- Does a kind name a field? -/
def hasF (k c : Int) : Bool := (fieldsB k).data.toList.any (fun b => decide ((b.toNat : Int) = c))
theorem fieldsB_ascii (k : Int) : ∀ (j : Nat) (h : j < (fieldsB k).size), ((fieldsB k)[j]'h).toNat < 128 := fun j h => by
  have hall : ∀ b ∈ (fieldsB k).data.toList, b.toNat < 128 := by
    unfold fieldsB
    (repeat' split) <;> decide
  exact hall _ (Array.mem_toList_iff.2 (Array.getElem_mem (xs := (fieldsB k).data) (i := j) h))
theorem any_at {s : ByteArray} {p : UInt8 → Bool} : s.data.toList.any p = true ↔ ∃ (j : Nat) (h : j < s.size), p (s[j]'h) = true := by
  rw [List.any_eq_true]
  constructor
  · rintro ⟨x, hx, hp⟩
    obtain ⟨j, hj, e⟩ := List.getElem_of_mem hx
    rw [← e] at hp
    have h2 : p (s.data[j]'(by simpa using hj)) = true := by simpa using hp
    exact ⟨j, by simpa using hj, h2⟩
  · rintro ⟨j, hj, hp⟩
    exact ⟨s[j], Array.mem_toList_iff.2 (Array.getElem_mem (xs := s.data) (i := j) hj), hp⟩
set_option maxHeartbeats 2000000 in
theorem fields_c {w : World} {k : Int} : Calls Try.prog 54 #[.int .i64 k] w fun e w' => e = .returned (.string (fieldsB k)) ∧ w' = w := by
  obtain ⟨R, hR⟩ : ∃ R, R = fieldsB k := ⟨_, rfl⟩
  rw [← hR]
  unfold fieldsB at hR
  have HR := Lib.hid hR; clear hR
  go_enter Try.func54, Try.ntmps54
  go_wp2
  all_goals
    go_ret
    exact ⟨by rw [HR.out]; simp_all, rfl⟩
set_option maxHeartbeats 4000000 in
theorem has_c {w : World} {k c : Int} : Calls Try.prog 32 #[.int .i64 k, .int .i32 c] w (RetV (.bool (hasF k c)) w) := by
  have HA := Lib.hid (fieldsB_ascii k)
  obtain ⟨R, hR⟩ : ∃ R, R = hasF k c := ⟨_, rfl⟩
  rw [← hR]
  unfold hasF at hR
  have HR := Lib.hid hR; clear hR
  have HF := Lib.hid (@fields_c w k)
  generalize fieldsB k = s at *
  go_enter Try.func32, Try.ntmps32
  go_wp2_with fail
  refine HF.out.mono ?_
  rintro e w1 ⟨rfl, rfl⟩
  go_wp2_with fail
  go_loopw [6] (fun _ wr => ∃ pos : Nat, pos ≤ s.size ∧ wr = w1.iter s pos ∧ Hid (∀ (j : Nat) (h : j < s.size), j < pos → ((s[j]'h).toNat : Int) ≠ c)) (fun _ wr => s.size - World.iterPos wr w1.heap.size)
  case atStart => exact ⟨0, Nat.zero_le _, rfl, Lib.hid (fun j h hj => by omega)⟩
  case round =>
    obtain ⟨pos, hp, rfl, HN⟩ := hrel
    by_cases hlt : pos < s.size
    · have hnx := fun ty => run_next_ascii (P := Try.prog) w1 s pos ty hlt (HA.out pos hlt)
      by_cases hc : ((s[pos]'hlt).toNat : Int) = c
      · have HE : Hid (R = true) := Lib.hid (by
          rw [HR.out]
          exact any_at.2 ⟨pos, hlt, decide_eq_true hc⟩)
        go_wp2
        go_ret
        exact ⟨by rw [HE.out]; rfl, (Below.refl _ _).alloc (Nat.le_refl _) _⟩
      · have HN2 : Hid (∀ (j : Nat) (h : j < s.size), j < pos + 1 → ((s[j]'h).toNat : Int) ≠ c) := Lib.hid (fun j h hj => by
          rcases Nat.lt_or_ge j pos with h' | h'
          · exact HN.out j h h'
          · obtain rfl : j = pos := by omega
            exact hc)
        go_wp2
        exact ⟨⟨pos + 1, by omega, rfl, HN2⟩, by rw [World.iterPos_iter, World.iterPos_iter]; omega⟩
    · have hnx := fun ty => run_next_end (P := Try.prog) w1 s pos ty hlt
      have HE : Hid (R = false) := Lib.hid (by
        rw [HR.out]
        cases hq : s.data.toList.any (fun b => decide ((b.toNat : Int) = c)) with
        | false => rfl
        | true =>
          obtain ⟨j, hj, hp2⟩ := any_at.1 hq
          exact absurd (of_decide_eq_true hp2) (HN.out j hj (by omega)))
      go_wp2
      go_ret
      exact ⟨by rw [HE.out]; rfl, (Below.refl _ _).alloc (Nat.le_refl _) _⟩

theorem recNumber_c {w : World} {n : Int} : Calls Try.prog 33 #[.int .i64 n] w (RetV (.bool (numOk n)) w) := by
  have hr : numOk n = decide (0 ≤ n ∧ n ≤ 1073741824) := rfl
  generalize numOk n = r at *
  have HR := Lib.hid hr; clear hr
  go_enter Try.func33, Try.ntmps33
  go_wp2
  all_goals
    go_ret
    exact ⟨by rw [HR.out]; congr 2; simp_all; try omega, (by repeat' (first | (with_reducible exact Below.refl _ _) | (with_reducible refine Below.alloc ?_ ?_ _) | (with_reducible refine Below.drew ?_) | (with_reducible refine below_drewN ?_ _) | (with_reducible refine Below.setCell ?_ ?_ _) | (refine via ?_ (by with_reducible assumption) ?_) | (refine via ?_ (below_ext _ _) ?_) | go_size))⟩
theorem list1_c {w : World} {n : Int} : Calls Try.prog 56 #[.int .i64 n] w (RetV (.bool (!numOk n)) w) := by
  go_enter Try.func56, Try.ntmps56
  go_wp2_with fail
  refine recNumber_c.mono ?_
  rintro e w1 ⟨rfl, hb1⟩
  go_wp2
  go_ret
  exact ⟨rfl, (by repeat' (first | (with_reducible exact Below.refl _ _) | (with_reducible refine Below.alloc ?_ ?_ _) | (with_reducible refine Below.drew ?_) | (with_reducible refine below_drewN ?_ _) | (with_reducible refine Below.setCell ?_ ?_ _) | (refine via ?_ (by with_reducible assumption) ?_) | (refine via ?_ (below_ext _ _) ?_) | go_size))⟩
/-- A slot that no record bears. -/
def badP (p : Slot) : Bool := decide (p.disk < -1 ∨ 12 ≤ p.disk ∨ p.pos < 0 ∨ 64 ≤ p.pos)
theorem places1_c {w : World} {p : Slot} : Calls Try.prog 57 #[.agg #[.int .i64 p.disk, .int .i64 p.pos]] w (RetV (.bool (badP p)) w) := by
  have hr : badP p = decide (p.disk < -1 ∨ 12 ≤ p.disk ∨ p.pos < 0 ∨ 64 ≤ p.pos) := rfl
  generalize badP p = r at *
  have HR := Lib.hid hr; clear hr
  by_cases h0 : p.disk < -1
  · go_enter Try.func57, Try.ntmps57
    go_wp2
    all_goals
      go_ret
      exact ⟨by rw [HR.out, decide_eq_true (by omega : p.disk < -1 ∨ 12 ≤ p.disk ∨ p.pos < 0 ∨ 64 ≤ p.pos)]; first | rfl | exact congrArg Value.bool (decide_eq_true (by omega)) | exact congrArg Value.bool (decide_eq_false (by omega)), (by repeat' (first | (with_reducible exact Below.refl _ _) | (with_reducible refine Below.alloc ?_ ?_ _) | (with_reducible refine Below.drew ?_) | (with_reducible refine below_drewN ?_ _) | (with_reducible refine Below.setCell ?_ ?_ _) | (refine via ?_ (by with_reducible assumption) ?_) | (refine via ?_ (below_ext _ _) ?_) | go_size))⟩
  · skip
    by_cases h1 : 12 ≤ p.disk
    · go_enter Try.func57, Try.ntmps57
      go_wp2
      all_goals
        go_ret
        exact ⟨by rw [HR.out, decide_eq_true (by omega : p.disk < -1 ∨ 12 ≤ p.disk ∨ p.pos < 0 ∨ 64 ≤ p.pos)]; first | rfl | exact congrArg Value.bool (decide_eq_true (by omega)) | exact congrArg Value.bool (decide_eq_false (by omega)), (by repeat' (first | (with_reducible exact Below.refl _ _) | (with_reducible refine Below.alloc ?_ ?_ _) | (with_reducible refine Below.drew ?_) | (with_reducible refine below_drewN ?_ _) | (with_reducible refine Below.setCell ?_ ?_ _) | (refine via ?_ (by with_reducible assumption) ?_) | (refine via ?_ (below_ext _ _) ?_) | go_size))⟩
    · skip
      by_cases h2 : p.pos < 0
      · go_enter Try.func57, Try.ntmps57
        go_wp2
        all_goals
          go_ret
          exact ⟨by rw [HR.out, decide_eq_true (by omega : p.disk < -1 ∨ 12 ≤ p.disk ∨ p.pos < 0 ∨ 64 ≤ p.pos)]; first | rfl | exact congrArg Value.bool (decide_eq_true (by omega)) | exact congrArg Value.bool (decide_eq_false (by omega)), (by repeat' (first | (with_reducible exact Below.refl _ _) | (with_reducible refine Below.alloc ?_ ?_ _) | (with_reducible refine Below.drew ?_) | (with_reducible refine below_drewN ?_ _) | (with_reducible refine Below.setCell ?_ ?_ _) | (refine via ?_ (by with_reducible assumption) ?_) | (refine via ?_ (below_ext _ _) ?_) | go_size))⟩
      · skip
        by_cases h3 : 64 ≤ p.pos
        · go_enter Try.func57, Try.ntmps57
          go_wp2
          all_goals
            go_ret
            exact ⟨by rw [HR.out, decide_eq_true (by omega : p.disk < -1 ∨ 12 ≤ p.disk ∨ p.pos < 0 ∨ 64 ≤ p.pos)]; first | rfl | exact congrArg Value.bool (decide_eq_true (by omega)) | exact congrArg Value.bool (decide_eq_false (by omega)), (by repeat' (first | (with_reducible exact Below.refl _ _) | (with_reducible refine Below.alloc ?_ ?_ _) | (with_reducible refine Below.drew ?_) | (with_reducible refine below_drewN ?_ _) | (with_reducible refine Below.setCell ?_ ?_ _) | (refine via ?_ (by with_reducible assumption) ?_) | (refine via ?_ (below_ext _ _) ?_) | go_size))⟩
        · skip
          go_enter Try.func57, Try.ntmps57
          go_wp2
          all_goals
            go_ret
            exact ⟨by rw [HR.out, decide_eq_false (by omega : ¬ (p.disk < -1 ∨ 12 ≤ p.disk ∨ p.pos < 0 ∨ 64 ≤ p.pos))]; first | rfl | exact congrArg Value.bool (decide_eq_true (by omega)) | exact congrArg Value.bool (decide_eq_false (by omega)), (by repeat' (first | (with_reducible exact Below.refl _ _) | (with_reducible refine Below.alloc ?_ ?_ _) | (with_reducible refine Below.drew ?_) | (with_reducible refine below_drewN ?_ _) | (with_reducible refine Below.setCell ?_ ?_ _) | (refine via ?_ (by with_reducible assumption) ?_) | (refine via ?_ (below_ext _ _) ?_) | go_size))⟩



set_option maxHeartbeats 1000000 in
theorem IndexFunc_rp {tg : Bool} {T : TypeId} {S : Nat → Prop} {w : World} {A : Option Addr} {n c : Nat} {xs : List Slot} (h : Sl tg T slotE w S A n c xs) (p : Slot → Bool)
    (hp : ∀ (W : World) (x : Slot), Below w.heap.size w W → Calls Try.prog 57 #[.agg #[.int .i64 x.disk, .int .i64 x.pos]] W (RetV (.bool (p x)) W)) :
    Calls Try.prog 80 #[.slice A n c, .func (.func 57) #[] #[]] w (RetV (.int .i64 (idxOf p xs)) w) := by
  have HL := Lib.hid h.len
  have HP := Lib.hid hp; clear hp
  have hcap : n ≤ 9223372036854775807 := Nat.le_trans h.le h.cap
  go_enter Try.func80, Try.ntmps80
  go_wp2
  go_loopw [5, 8] (fun _ i wr => ∃ k : Nat, k ≤ n ∧ i = .int .i64 k ∧ Below w.heap.size w wr ∧ Hid (∀ j, j < k → p (xs.getD j default) = false)) (fun _ i _ => n - (intOf i).toNat)
  case atStart => exact ⟨0, Nat.zero_le _, rfl, Below.refl _ _, Lib.hid (fun j hj => by omega)⟩
  case round =>
    obtain ⟨k, hk, rfl, hB, he⟩ := hrel
    by_cases hlt : k < n
    · obtain ⟨b, off, rfl, hS, hbl, g1, g2, hc0, hc1, _⟩ := (h.all hB).slot_at hlt
      have hcall := HP.out wr (xs.getD k default) hB
      generalize hx : xs.getD k default = x at *
      have HX := Lib.hid hx; clear hx
      have HB := Lib.hid hB; clear hB
      have HC := Lib.hid hcall; clear hcall
      go_wp2_with fail
      refine HC.out.mono ?_
      rintro e w2 ⟨rfl, hb2⟩
      have HB2 := Lib.hid hb2; clear hb2
      cases hpx : p x with
      | true =>
        have HF : Hid (idxOf p xs = (k : Int)) := Lib.hid (idxOf_some (d := default) (by have := HL.out; omega) (by rw [HX.out]; exact hpx) he.out)
        clear hpx
        go_wp2
        go_ret
        exact ⟨by rw [HF.out]; rfl, via HB.out HB2.out (Nat.le_refl _)⟩
      | false =>
        have HF : Hid (∀ j, j < k + 1 → p (xs.getD j default) = false) := Lib.hid (fun j hj => by
          by_cases hjk : j = k
          · subst hjk; rw [HX.out]; exact hpx
          · exact he.out j (by omega))
        clear hpx
        go_wp2
        go_roundw
        case rel => exact ⟨k + 1, by omega, by go_num, via HB.out HB2.out (Nat.le_refl _), HF⟩
        case measure => simp [intOf]; omega
    · have HF : Hid (idxOf p xs = -1) := Lib.hid (idxOf_none (d := default) fun j hj => he.out j (by have := HL.out; omega))
      go_wp2
      go_ret
      exact ⟨by rw [HF.out]; rfl, hB⟩

set_option maxHeartbeats 400000 in
theorem ContainsFunc_rp {tg : Bool} {T : TypeId} {S : Nat → Prop} {w : World} {A : Option Addr} {n c : Nat} {xs : List Slot} (h : Sl tg T slotE w S A n c xs) (p : Slot → Bool)
    (hp : ∀ (W : World) (x : Slot), Below w.heap.size w W → Calls Try.prog 57 #[.agg #[.int .i64 x.disk, .int .i64 x.pos]] W (RetV (.bool (p x)) W)) :
    Calls Try.prog 58 #[.slice A n c, .func (.func 57) #[] #[]] w (RetV (.bool (xs.any p)) w) := by
  have HP := Lib.hid hp; clear hp
  have HQ := Lib.hid (idxOf_any (xs := xs) (p := p))
  go_enter Try.func58, Try.ntmps58
  go_wp2_with fail
  refine (IndexFunc_rp h p HP.out).mono ?_
  rintro e w2 ⟨rfl, hb2⟩
  generalize hi : idxOf p xs = i at *
  go_wp2
  all_goals
    go_ret
    refine ⟨?_, hb2⟩
    rw [HQ.out]
    first | rfl | (congr 2; simp_all; done) | (congr 2; simp_all; omega)

set_option maxHeartbeats 1000000 in
theorem IndexFunc_rl {tg : Bool} {T : TypeId} {S : Nat → Prop} {w : World} {A : Option Addr} {n c : Nat} {xs : List Int} (h : Sl tg T intE w S A n c xs) (p : Int → Bool)
    (hp : ∀ (W : World) (x : Int), Below w.heap.size w W → Calls Try.prog 56 #[.int .i64 x] W (RetV (.bool (p x)) W)) :
    Calls Try.prog 79 #[.slice A n c, .func (.func 56) #[] #[]] w (RetV (.int .i64 (idxOf p xs)) w) := by
  have HL := Lib.hid h.len
  have HP := Lib.hid hp; clear hp
  have hcap : n ≤ 9223372036854775807 := Nat.le_trans h.le h.cap
  go_enter Try.func79, Try.ntmps79
  go_wp2
  go_loopw [5, 8] (fun _ i wr => ∃ k : Nat, k ≤ n ∧ i = .int .i64 k ∧ Below w.heap.size w wr ∧ Hid (∀ j, j < k → p (xs.getD j 0) = false)) (fun _ i _ => n - (intOf i).toNat)
  case atStart => exact ⟨0, Nat.zero_le _, rfl, Below.refl _ _, Lib.hid (fun j hj => by omega)⟩
  case round =>
    obtain ⟨k, hk, rfl, hB, he⟩ := hrel
    by_cases hlt : k < n
    · obtain ⟨b, off, rfl, hS, hbl, g1, hc0, _⟩ := (h.all hB).int_at hlt
      have hcall := HP.out wr (xs.getD k 0) hB
      generalize hx : xs.getD k 0 = x at *
      have HX := Lib.hid hx; clear hx
      have HB := Lib.hid hB; clear hB
      have HC := Lib.hid hcall; clear hcall
      go_wp2_with fail
      refine HC.out.mono ?_
      rintro e w2 ⟨rfl, hb2⟩
      have HB2 := Lib.hid hb2; clear hb2
      cases hpx : p x with
      | true =>
        have HF : Hid (idxOf p xs = (k : Int)) := Lib.hid (idxOf_some (d := 0) (by have := HL.out; omega) (by rw [HX.out]; exact hpx) he.out)
        clear hpx
        go_wp2
        go_ret
        exact ⟨by rw [HF.out]; rfl, via HB.out HB2.out (Nat.le_refl _)⟩
      | false =>
        have HF : Hid (∀ j, j < k + 1 → p (xs.getD j 0) = false) := Lib.hid (fun j hj => by
          by_cases hjk : j = k
          · subst hjk; rw [HX.out]; exact hpx
          · exact he.out j (by omega))
        clear hpx
        go_wp2
        go_roundw
        case rel => exact ⟨k + 1, by omega, by go_num, via HB.out HB2.out (Nat.le_refl _), HF⟩
        case measure => simp [intOf]; omega
    · have HF : Hid (idxOf p xs = -1) := Lib.hid (idxOf_none (d := 0) fun j hj => he.out j (by have := HL.out; omega))
      go_wp2
      go_ret
      exact ⟨by rw [HF.out]; rfl, hB⟩

set_option maxHeartbeats 400000 in
theorem ContainsFunc_rl {tg : Bool} {T : TypeId} {S : Nat → Prop} {w : World} {A : Option Addr} {n c : Nat} {xs : List Int} (h : Sl tg T intE w S A n c xs) (p : Int → Bool)
    (hp : ∀ (W : World) (x : Int), Below w.heap.size w W → Calls Try.prog 56 #[.int .i64 x] W (RetV (.bool (p x)) W)) :
    Calls Try.prog 55 #[.slice A n c, .func (.func 56) #[] #[]] w (RetV (.bool (xs.any p)) w) := by
  have HP := Lib.hid hp; clear hp
  have HQ := Lib.hid (idxOf_any (xs := xs) (p := p))
  go_enter Try.func55, Try.ntmps55
  go_wp2_with fail
  refine (IndexFunc_rl h p HP.out).mono ?_
  rintro e w2 ⟨rfl, hb2⟩
  generalize hi : idxOf p xs = i at *
  go_wp2
  all_goals
    go_ret
    refine ⟨?_, hb2⟩
    rw [HQ.out]
    first | rfl | (congr 2; simp_all; done) | (congr 2; simp_all; omega)


/-- May a record's slots be? -/
def placesOk (l : List Slot) : Bool := decide (1 ≤ l.length) && (decide (l.length ≤ 14) && !(l.any badP))
def listOk (kd : Int) (l : List Int) : Bool := !(decide (kd = 2) && decide (l.length ≠ 2)) && (decide (l.length ≤ 2000) && !(l.any (fun n => !numOk n)))
set_option maxHeartbeats 2000000 in
theorem places_c {tg : Bool} {T : TypeId} {S : Nat → Prop} {w : World} {A : Option Addr} {n c : Nat} {xs : List Slot} (h : Sl tg T slotE w S A n c xs) :
    Calls Try.prog 35 #[.slice A n c] w (RetV (.bool (placesOk xs)) w) := by
  have HL := Lib.hid h.len
  have hcap : n ≤ 9223372036854775807 := Nat.le_trans h.le h.cap
  have HC := Lib.hid (ContainsFunc_rp h badP (fun W x _ => places1_c))
  obtain ⟨R, hR⟩ : ∃ R, R = placesOk xs := ⟨_, rfl⟩
  rw [← hR]
  have HR : Hid (R = (decide (1 ≤ n) && (decide (n ≤ 14) && !(xs.any badP)))) := Lib.hid (by rw [hR]; unfold placesOk; rw [HL.out])
  clear hR
  generalize xs.any badP = q at *
  go_enter Try.func35, Try.ntmps35
  by_cases h1 : 1 ≤ n
  · by_cases h2 : n ≤ 14
    · go_wp2_with fail
      refine HC.out.mono ?_
      rintro e w1 ⟨rfl, hb1⟩
      go_wp2
      go_ret
      exact ⟨by rw [HR.out, decide_eq_true h1, decide_eq_true h2]; simp, hb1⟩
    · go_wp2
      go_ret
      exact ⟨by rw [HR.out, decide_eq_false h2]; simp, Below.refl _ _⟩
  · obtain rfl : n = 0 := by omega
    go_wp2
    go_ret
    exact ⟨by rw [HR.out]; rfl, Below.refl _ _⟩
set_option maxHeartbeats 2000000 in
theorem list_c {tg : Bool} {T : TypeId} {S : Nat → Prop} {w : World} {A B : Option Addr} {n c n5 c5 : Nat} {xs : List Int} {kd id : Int} {nm dg : ByteArray} (h : Sl tg T intE w S A n c xs) :
    Calls Try.prog 34 #[.agg #[.int .i64 kd, .int .i64 id, .string nm, .string dg, .slice A n c, .slice B n5 c5]] w (RetV (.bool (listOk kd xs)) w) := by
  have HL := Lib.hid h.len
  have hcap : n ≤ 9223372036854775807 := Nat.le_trans h.le h.cap
  have HC := Lib.hid (fun W (hW : Below w.heap.size w W) => ContainsFunc_rl (h.all hW) (fun n => !numOk n) (fun W x _ => list1_c))
  obtain ⟨R, hR⟩ : ∃ R, R = listOk kd xs := ⟨_, rfl⟩
  rw [← hR]
  have HR : Hid (R = (!(decide (kd = 2) && decide (n ≠ 2)) && (decide (n ≤ 2000) && !(xs.any (fun n => !numOk n))))) := Lib.hid (by rw [hR]; unfold listOk; rw [HL.out])
  clear hR
  generalize xs.any (fun n => !numOk n) = q at *
  go_enter Try.func34, Try.ntmps34
  by_cases hb : kd = 2 ∧ n ≠ 2
  · obtain ⟨hb1, hb2⟩ := hb
    subst hb1
    have hb3 : ((n : Int) != 2) = true := by simp; omega
    go_wp2
    go_ret
    exact ⟨by rw [HR.out]; simp [hb2], (by repeat' (first | (with_reducible exact Below.refl _ _) | (with_reducible refine Below.alloc ?_ ?_ _) | (with_reducible refine Below.drew ?_) | (with_reducible refine below_drewN ?_ _) | (with_reducible refine Below.setCell ?_ ?_ _) | (refine via ?_ (by with_reducible assumption) ?_) | (refine via ?_ (below_ext _ _) ?_) | go_size))⟩
  · by_cases hk : kd = 2
    · have hn2 : n = 2 := by
        rcases Nat.decEq n 2 with h2 | h2
        · exact absurd ⟨hk, h2⟩ hb
        · exact h2
      subst hk
      subst hn2
      clear hb
      go_wp2_with fail
      refine (HC.out _ (by repeat' (first | (with_reducible exact Below.refl _ _) | (with_reducible refine Below.alloc ?_ ?_ _) | (with_reducible refine Below.drew ?_) | (with_reducible refine below_drewN ?_ _) | (with_reducible refine Below.setCell ?_ ?_ _) | (refine via ?_ (by with_reducible assumption) ?_) | (refine via ?_ (below_ext _ _) ?_) | go_size))).mono ?_
      rintro e w1 ⟨rfl, hb1⟩
      go_wp2
      go_ret
      exact ⟨by rw [HR.out]; simp, (by repeat' (first | (with_reducible exact Below.refl _ _) | (with_reducible refine Below.alloc ?_ ?_ _) | (with_reducible refine Below.drew ?_) | (with_reducible refine below_drewN ?_ _) | (with_reducible refine Below.setCell ?_ ?_ _) | (refine via ?_ (by with_reducible assumption) ?_) | (refine via ?_ (below_ext _ _) ?_) | go_size))⟩
    · have hk2 : (kd == 2) = false := by simpa using hk
      have HK := Lib.hid hk
      clear hk hb
      by_cases h3 : n ≤ 2000
      · go_wp2_with fail
        refine (HC.out _ (by repeat' (first | (with_reducible exact Below.refl _ _) | (with_reducible refine Below.alloc ?_ ?_ _) | (with_reducible refine Below.drew ?_) | (with_reducible refine below_drewN ?_ _) | (with_reducible refine Below.setCell ?_ ?_ _) | (refine via ?_ (by with_reducible assumption) ?_) | (refine via ?_ (below_ext _ _) ?_) | go_size))).mono ?_
        rintro e w1 ⟨rfl, hb1⟩
        go_wp2
        go_ret
        exact ⟨by rw [HR.out, decide_eq_false HK.out, decide_eq_true h3]; simp, (by repeat' (first | (with_reducible exact Below.refl _ _) | (with_reducible refine Below.alloc ?_ ?_ _) | (with_reducible refine Below.drew ?_) | (with_reducible refine below_drewN ?_ _) | (with_reducible refine Below.setCell ?_ ?_ _) | (refine via ?_ (by with_reducible assumption) ?_) | (refine via ?_ (below_ext _ _) ?_) | go_size))⟩
      · go_wp2
        go_ret
        exact ⟨by rw [HR.out, decide_eq_false HK.out, decide_eq_false h3]; simp, (by repeat' (first | (with_reducible exact Below.refl _ _) | (with_reducible refine Below.alloc ?_ ?_ _) | (with_reducible refine Below.drew ?_) | (with_reducible refine below_drewN ?_ _) | (with_reducible refine Below.setCell ?_ ?_ _) | (refine via ?_ (by with_reducible assumption) ?_) | (refine via ?_ (below_ext _ _) ?_) | go_size))⟩
end Go.Proofs.Ytipecejghioicaa
