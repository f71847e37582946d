/- Which slots may be: the program's answer and the page's are one. -/
import Derived.Test.YtjeecdoffoahkaaZd
namespace Go.Proofs.Ytjeecdoffoahkaa
open Go.RowKit Go.Silo

/-- Element j may stand where it does in a list of free slots. -/
def Rat (xs : List Int) (j : Nat) : Prop := 0 ≤ xs.getD j 0 ∧ xs.getD j 0 ≤ 63 ∧ (0 < j → xs.getD (j - 1) 0 < xs.getD j 0)
def Rising (xs : List Int) : Prop := ∀ j, j < xs.length → Rat xs j
noncomputable def risingB (xs : List Int) : Bool := @decide (Rising xs) (Classical.propDecidable _)
theorem risingB_true {xs : List Int} (h : Rising xs) : risingB xs = true := by unfold risingB; exact @decide_eq_true _ (Classical.propDecidable _) h
theorem risingB_false {xs : List Int} (h : ¬ Rising xs) : risingB xs = false := by unfold risingB; exact @decide_eq_false _ (Classical.propDecidable _) h
theorem rising_of {xs : List Int} (h : risingB xs = true) : Rising xs := by
  by_cases hh : Rising xs
  · exact hh
  · rw [risingB_false hh] at h; cases h

theorem Rat.first {xs : List Int} {j : Nat} (hj : j = 0) (h0 : 0 ≤ xs.getD j 0) (h1 : xs.getD j 0 ≤ 63) : Rat xs j := ⟨h0, h1, fun h => by omega⟩
theorem Rat.next {xs : List Int} {j : Nat} (h0 : 0 ≤ xs.getD (j + 1) 0) (h1 : xs.getD (j + 1) 0 ≤ 63) (h2 : xs.getD j 0 < xs.getD (j + 1) 0) : Rat xs (j + 1) := ⟨h0, h1, fun _ => by simpa using h2⟩

set_option maxHeartbeats 1000000 in
theorem rising_c {tg : Bool} {T : TypeId} {S : Nat → Prop} {w : World} {A : Option Addr} {n c : Nat} {xs : List Int} (h : Sl tg T intE w S A n c xs) :
    Calls Try.prog 129 #[.slice A n c] w (RetV (.bool (risingB xs)) w) := by
  have HL := Lib.hid h.len
  have hcap : n ≤ 9223372036854775807 := Nat.le_trans h.le h.cap
  go_enter Try.func129, Try.ntmps129
  go_wp2
  go_loopw [3, 4, 7] (fun _ _ i wr => ∃ k : Nat, k ≤ n ∧ i = .int .i64 k ∧ Below w.heap.size w wr ∧ Hid (∀ j, j < k → Rat xs j)) (fun _ _ i _ => n - (intOf i).toNat)
  case atStart => exact ⟨0, Nat.zero_le _, rfl, Below.refl _ _, Lib.hid (fun j hj => by omega)⟩
  case round =>
    obtain ⟨k, hk, rfl, hB, he⟩ := hrel
    by_cases hlt : k < n
    · have no : ¬ Rat xs k → Hid (risingB xs = false) := fun hn => Lib.hid (risingB_false fun hr => hn (hr k (by rw [HL.out]; exact hlt)))
      have yes : Rat xs k → Hid (∀ j, j < k + 1 → Rat xs j) := fun hy => Lib.hid (fun j hj => by
        by_cases hjk : j = k
        · subst hjk; exact hy
        · exact he.out j (by omega))
      obtain ⟨b, off, rfl, hS, hbl, g1, hc0, _⟩ := (h.all hB).int_at hlt
      rcases Nat.eq_zero_or_pos k with rfl | hpos
      · simp only [Nat.add_zero] at hc0
        generalize hx : xs.getD 0 0 = x at *
        have HX := Lib.hid hx; clear hx
        rcases (by omega : x < 0 ∨ (0 ≤ x ∧ 64 ≤ x) ∨ (0 ≤ x ∧ x ≤ 63)) with h1 | ⟨h1, h2⟩ | ⟨h1, h2⟩
        · have HF := no (fun hr => by have := hr.1; rw [HX.out] at this; omega)
          clear no yes
          go_wp2
          go_ret
          exact ⟨by rw [HF.out]; rfl, hB⟩
        · have HF := no (fun hr => by have := hr.2.1; rw [HX.out] at this; omega)
          clear no yes
          go_wp2
          go_ret
          exact ⟨by rw [HF.out]; rfl, hB⟩
        · have HF := yes (.first rfl (by rw [HX.out]; exact h1) (by rw [HX.out]; exact h2))
          clear no yes
          have HB := Lib.hid hB; clear hB
          go_wp2
          go_roundw
          case rel => exact ⟨1, by omega, by go_num, HB.out, HF⟩
          case measure => simp [intOf]; omega
      · obtain ⟨j, rfl⟩ : ∃ j, k = j + 1 := ⟨k - 1, by omega⟩
        obtain ⟨b', off', e', _, _, _, hc1, _⟩ := (h.all hB).int_at (show j < n by omega)
        injection e' with e'; injection e' with e1 e2 _; subst e1; subst e2
        generalize hx : xs.getD (j + 1) 0 = x at *
        generalize hy : xs.getD j 0 = y at *
        have HX := Lib.hid hx; clear hx
        have HY := Lib.hid hy; clear hy
        rcases (by omega : x < 0 ∨ (0 ≤ x ∧ 64 ≤ x) ∨ (0 ≤ x ∧ x ≤ 63 ∧ x ≤ y) ∨ (0 ≤ x ∧ x ≤ 63 ∧ y < x)) with h1 | ⟨h1, h2⟩ | ⟨h1, h2, h3⟩ | ⟨h1, h2, h3⟩
        · have HF := no (fun hr => by have := hr.1; rw [HX.out] at this; omega)
          clear no yes
          go_wp2
          go_ret
          exact ⟨by rw [HF.out]; rfl, hB⟩
        · have HF := no (fun hr => by have := hr.2.1; rw [HX.out] at this; omega)
          clear no yes
          go_wp2
          go_ret
          exact ⟨by rw [HF.out]; rfl, hB⟩
        · have HF := no (fun hr => by have := hr.2.2 (by omega); simp only [Nat.add_sub_cancel] at this; rw [HX.out, HY.out] at this; omega)
          clear no yes
          go_wp2
          go_ret
          exact ⟨by rw [HF.out]; rfl, hB⟩
        · have HF := yes (.next (by rw [HX.out]; exact h1) (by rw [HX.out]; exact h2) (by rw [HX.out, HY.out]; exact h3))
          clear no yes
          have HB := Lib.hid hB; clear hB
          go_wp2
          go_roundw
          case rel => exact ⟨j + 1 + 1, by omega, by go_num, HB.out, HF⟩
          case measure => simp [intOf]; omega
    · have HF : Hid (risingB xs = true) := Lib.hid (risingB_true fun j hj => he.out j (by rw [HL.out] at hj; omega))
      go_wp2
      go_ret
      exact ⟨by rw [HF.out]; rfl, hB⟩

/-- The first place of an element that meets p; -1. -/
def idxOf {α : Type} (p : α → Bool) (xs : List α) : Int := match xs.findIdx? p with | some k => (k : Int) | none => -1
theorem idxOf_some {α : Type} {p : α → Bool} {xs : List α} {d : α} {k : Nat} (hk : k < xs.length) (h : p (xs.getD k d) = true) (hn : ∀ j, j < k → p (xs.getD j d) = false) : idxOf p xs = (k : Int) := by
  have : xs.findIdx? p = some k := by
    rw [List.findIdx?_eq_some_iff_getElem]
    refine ⟨hk, ?_, fun j hj => ?_⟩
    · rw [List.getD_eq_getElem?_getD, List.getElem?_eq_getElem hk] at h; simpa using h
    · have := hn j hj; rw [List.getD_eq_getElem?_getD, List.getElem?_eq_getElem (by omega)] at this; simpa using this
  unfold idxOf; rw [this]
theorem idxOf_none {α : Type} {p : α → Bool} {xs : List α} {d : α} (hn : ∀ j, j < xs.length → p (xs.getD j d) = false) : idxOf p xs = -1 := by
  have : xs.findIdx? p = none := by
    rw [List.findIdx?_eq_none_iff]
    intro y hy
    obtain ⟨j, hj, rfl⟩ := List.mem_iff_getElem.1 hy
    have := hn j hj
    rw [List.getD_eq_getElem?_getD, List.getElem?_eq_getElem hj] at this
    simpa using this
  unfold idxOf; rw [this]
theorem idxOf_any {α : Type} {p : α → Bool} {xs : List α} : xs.any p = decide (0 ≤ idxOf p xs) := by
  unfold idxOf
  cases h : xs.findIdx? p with
  | none =>
    rw [List.findIdx?_eq_none_iff] at h
    rw [List.any_eq_false.2 (fun x hx => by simpa using h x hx)]; rfl
  | some k =>
    rw [List.findIdx?_eq_some_iff_getElem] at h
    obtain ⟨hk, hp, _⟩ := h
    rw [List.any_eq_true.2 ⟨_, List.getElem_mem hk, hp⟩]; simp

set_option maxHeartbeats 1000000 in
theorem IndexFunc_free {tg tg1 : Bool} {T : TypeId} {S : Nat → Prop} {w : World} {A : Option Addr} {n c : Nat} {xs : List (List Int)} (h : Sl tg T (slE tg1 3 intE) w S A n c xs) (p : List Int → Bool)
    (hp : ∀ (W : World) (x : List Int), Below w.heap.size w W → x ∈ xs → ∀ A1 n1 c1, Sl tg1 3 intE W S A1 n1 c1 x → Calls Try.prog 128 #[.slice A1 n1 c1] W (RetV (.bool (p x)) W)) :
    Calls Try.prog 165 #[.slice A n c, .func (.func 128) #[] #[]] w (RetV (.int .i64 (idxOf p xs)) w) := by
  have HL := Lib.hid h.len
  have HP := Lib.hid hp; clear hp
  have hcap : n ≤ 9223372036854775807 := Nat.le_trans h.le h.cap
  go_enter Try.func165, Try.ntmps165
  go_wp2
  go_loopw [5, 8] (fun _ i wr => ∃ k : Nat, k ≤ n ∧ i = .int .i64 k ∧ Below w.heap.size w wr ∧ Hid (∀ j, j < k → p (xs.getD j []) = false)) (fun _ i _ => n - (intOf i).toNat)
  case atStart => exact ⟨0, Nat.zero_le _, rfl, Below.refl _ _, Lib.hid (fun j hj => by omega)⟩
  case round =>
    obtain ⟨k, hk, rfl, hB, he⟩ := hrel
    by_cases hlt : k < n
    · have hmem : xs.getD k [] ∈ xs := by rw [List.getD_eq_getElem?_getD, List.getElem?_eq_getElem (by have := HL.out; omega)]; exact List.getElem_mem _
      obtain ⟨b, off, A1, n1, c1, rfl, hS, hbl, h1, hc0, _⟩ := (h.all hB).sl_at hlt
      have hcall := HP.out wr _ hB hmem _ _ _ h1
      generalize hx : xs.getD k [] = x at *
      have HX := Lib.hid hx; clear hx
      have HB := Lib.hid hB; clear hB
      have HC := Lib.hid hcall; clear hcall
      go_wp2_with fail
      refine HC.out.mono ?_
      rintro e w2 ⟨rfl, hb2⟩
      have HB2 := Lib.hid hb2; clear hb2
      cases hpx : p x with
      | true =>
        have HF : Hid (idxOf p xs = (k : Int)) := Lib.hid (idxOf_some (by have := HL.out; omega) (by rw [HX.out]; exact hpx) he.out)
        clear hpx
        go_wp2
        go_ret
        exact ⟨by rw [HF.out]; rfl, via HB.out HB2.out (Nat.le_refl _)⟩
      | false =>
        have HF : Hid (∀ j, j < k + 1 → p (xs.getD j []) = false) := Lib.hid (fun j hj => by
          by_cases hjk : j = k
          · subst hjk; rw [HX.out]; exact hpx
          · exact he.out j (by omega))
        clear hpx
        go_wp2
        go_roundw
        case rel => exact ⟨k + 1, by omega, by go_num, via HB.out HB2.out (Nat.le_refl _), HF⟩
        case measure => simp [intOf]; omega
    · have HF : Hid (idxOf p xs = -1) := Lib.hid (idxOf_none (d := []) fun j hj => he.out j (by have := HL.out; omega))
      go_wp2
      go_ret
      exact ⟨by rw [HF.out]; rfl, hB⟩

set_option maxHeartbeats 400000 in
theorem ContainsFunc_free {tg tg1 : Bool} {T : TypeId} {S : Nat → Prop} {w : World} {A : Option Addr} {n c : Nat} {xs : List (List Int)} (h : Sl tg T (slE tg1 3 intE) w S A n c xs) (p : List Int → Bool)
    (hp : ∀ (W : World) (x : List Int), Below w.heap.size w W → x ∈ xs → ∀ A1 n1 c1, Sl tg1 3 intE W S A1 n1 c1 x → Calls Try.prog 128 #[.slice A1 n1 c1] W (RetV (.bool (p x)) W)) :
    Calls Try.prog 130 #[.slice A n c, .func (.func 128) #[] #[]] w (RetV (.bool (xs.any p)) w) := by
  have HP := Lib.hid hp; clear hp
  have HQ := Lib.hid (idxOf_any (xs := xs) (p := p))
  go_enter Try.func130, Try.ntmps130
  go_wp2_with fail
  refine (IndexFunc_free h p HP.out).mono ?_
  rintro e w2 ⟨rfl, hb2⟩
  generalize hi : idxOf p xs = i at *
  go_wp2
  all_goals
    go_ret
    refine ⟨?_, hb2⟩
    rw [HQ.out]
    first | rfl | (congr 2; simp_all; done) | (congr 2; simp_all; omega)

set_option maxHeartbeats 400000 in
theorem slotsMay1_c {tg : Bool} {T : TypeId} {S : Nat → Prop} {w : World} {A : Option Addr} {n c : Nat} {xs : List Int} (h : Sl tg T intE w S A n c xs) :
    Calls Try.prog 128 #[.slice A n c] w (RetV (.bool (!risingB xs)) w) := by
  go_enter Try.func128, Try.ntmps128
  go_wp2_with (go_at_call 129; refine (rising_c h).mono ?_; rintro e w1 ⟨rfl, hb1⟩)
  go_ret
  exact ⟨rfl, hb1⟩

/-- Slots that may be. -/
structure SlotsOk (x : SlotsD) : Prop where
  one : 1 ≤ x.live.length
  most : x.live.length ≤ 12
  same : x.free.length = x.live.length
  free : ∀ l ∈ x.free, Rising l
noncomputable def slotsOkB (x : SlotsD) : Bool := @decide (SlotsOk x) (Classical.propDecidable _)
theorem slotsOkB_true {x : SlotsD} (h : SlotsOk x) : slotsOkB x = true := by unfold slotsOkB; exact @decide_eq_true _ (Classical.propDecidable _) h
theorem slotsOkB_false {x : SlotsD} (h : ¬ SlotsOk x) : slotsOkB x = false := by unfold slotsOkB; exact @decide_eq_false _ (Classical.propDecidable _) h
theorem slotsOk_any {l : List (List Int)} : (l.any fun x => !risingB x) = false ↔ ∀ x ∈ l, Rising x := by
  rw [List.any_eq_false]
  constructor
  · intro h x hx; have := h x hx; simp at this; exact rising_of this
  · intro h x hx; simp [risingB_true (h x hx)]

set_option maxHeartbeats 1000000 in
theorem slotsMay_c {tg : Bool} {S : Nat → Prop} {w : World} {A0 A1 : Option Addr} {n0 c0 n1 c1 : Nat} {x : SlotsD}
    (h0 : Sl tg 4 boolE w S A0 n0 c0 x.live) (h1 : Sl tg 52 (slE tg 3 intE) w S A1 n1 c1 x.free) :
    Calls Try.prog 80 #[.agg #[.slice A0 n0 c0, .slice A1 n1 c1]] w (RetV (.bool (slotsOkB x)) w) := by
  have HL0 := Lib.hid h0.len
  have HL1 := Lib.hid h1.len
  have yes := @slotsOkB_true x
  have no := @slotsOkB_false x
  generalize hr : slotsOkB x = r at *
  have HR := Lib.hid hr; clear hr
  have HY := Lib.hid yes; clear yes
  have HN := Lib.hid no; clear no
  go_enter Try.func80, Try.ntmps80
  go_wp2_with (go_at_call 130; refine (ContainsFunc_free (h1.all (by repeat' (first | (with_reducible exact Below.refl _ _) | (with_reducible refine Below.alloc ?_ ?_ _) | (with_reducible refine Below.drew ?_) | (with_reducible refine below_drewN ?_ _) | (with_reducible refine Below.setCell ?_ ?_ _) | (refine via ?_ (by with_reducible assumption) ?_) | (refine via ?_ (below_ext _ _) ?_) | go_size))) _ (fun W l hb hl A n c h => slotsMay1_c h)).mono ?_; rintro e w1 ⟨rfl, hb1⟩)
  · go_ret
    refine ⟨?_, (by repeat' (first | (with_reducible exact Below.refl _ _) | (with_reducible refine Below.alloc ?_ ?_ _) | (with_reducible refine Below.drew ?_) | (with_reducible refine below_drewN ?_ _) | (with_reducible refine Below.setCell ?_ ?_ _) | (refine via ?_ (by with_reducible assumption) ?_) | (refine via ?_ (below_ext _ _) ?_) | go_size))⟩
    have e0 := HL0.out
    have e1 := HL1.out
    by_cases hf : ∀ l ∈ x.free, Rising l
    · rw [HY.out ⟨by omega, by omega, by omega, hf⟩, slotsOk_any.2 hf]; rfl
    · rw [HN.out fun h => hf h.free]
      have : (x.free.any fun x => !risingB x) = true := by
        cases hh : (x.free.any fun x => !risingB x) with
        | true => rfl
        | false => exact (hf (slotsOk_any.1 hh)).elim
      rw [this]; rfl
  all_goals
    go_ret
    refine ⟨?_, (by repeat' (first | (with_reducible exact Below.refl _ _) | (with_reducible refine Below.alloc ?_ ?_ _) | (with_reducible refine Below.drew ?_) | (with_reducible refine below_drewN ?_ _) | (with_reducible refine Below.setCell ?_ ?_ _) | (refine via ?_ (by with_reducible assumption) ?_) | (refine via ?_ (below_ext _ _) ?_) | go_size))⟩
    have e0 := HL0.out
    have e1 := HL1.out
    rw [HN.out fun h => by have := h.one; have := h.most; have := h.same; omega]
    rfl

/-- The error of what must be so. -/
def okErr (b : Bool) : Int := if b then 0 else 1

theorem slotsCheck_c {tg : Bool} {S : Nat → Prop} {w : World} {A0 A1 : Option Addr} {n0 c0 n1 c1 : Nat} {x : SlotsD}
    (h0 : Sl tg 4 boolE w S A0 n0 c0 x.live) (h1 : Sl tg 52 (slE tg 3 intE) w S A1 n1 c1 x.free) :
    Calls Try.prog 108 #[.agg #[.slice A0 n0 c0, .slice A1 n1 c1]] w (RetV (.int .i64 (okErr (slotsOkB x))) w) := by
  generalize hr : slotsOkB x = r
  have HR := Lib.hid hr; clear hr
  go_enter Try.func108, Try.ntmps108
  go_wp2_with fail
  refine (slotsMay_c (h0.all (by repeat' (first | (with_reducible exact Below.refl _ _) | (with_reducible refine Below.alloc ?_ ?_ _) | (with_reducible refine Below.drew ?_) | (with_reducible refine below_drewN ?_ _) | (with_reducible refine Below.setCell ?_ ?_ _) | (refine via ?_ (by with_reducible assumption) ?_) | (refine via ?_ (below_ext _ _) ?_) | go_size))) (h1.all (by repeat' (first | (with_reducible exact Below.refl _ _) | (with_reducible refine Below.alloc ?_ ?_ _) | (with_reducible refine Below.drew ?_) | (with_reducible refine below_drewN ?_ _) | (with_reducible refine Below.setCell ?_ ?_ _) | (refine via ?_ (by with_reducible assumption) ?_) | (refine via ?_ (below_ext _ _) ?_) | go_size)))).mono ?_
  rintro e w1 ⟨rfl, hb1⟩
  rw [HR.out]
  cases r <;> go_wp2 <;> go_ret <;> exact ⟨rfl, (by repeat' (first | (with_reducible exact Below.refl _ _) | (with_reducible refine Below.alloc ?_ ?_ _) | (with_reducible refine Below.drew ?_) | (with_reducible refine below_drewN ?_ _) | (with_reducible refine Below.setCell ?_ ?_ _) | (refine via ?_ (by with_reducible assumption) ?_) | (refine via ?_ (below_ext _ _) ?_) | go_size))⟩

/-- Element j of a free list as the page's loop asks it. -/
theorem ref_Rat (xs : List Int) (j : Nat) : Rat xs j ↔ ((0 ≤ xs.getD j 0 ∧ xs.getD j 0 ≤ 63) ∧ (0 < j → xs.getD (j - 1) 0 < xs.getD j 0)) := ⟨fun h => ⟨⟨h.1, h.2.1⟩, h.2.2⟩, fun h => ⟨h.1.1, h.1.2, h.2⟩⟩
theorem getD_mem {α : Type} {l : List α} {d : α} {k : Nat} (h : k < l.length) : l.getD k d ∈ l := by rw [List.getD_eq_getElem?_getD, List.getElem?_eq_getElem h]; exact List.getElem_mem _
theorem pigeon {l : List Int} (h : Rising l) : l.length ≤ 64 := by
  have key : ∀ j, j < l.length → (j : Int) ≤ l.getD j 0 := by
    intro j
    induction j with
    | zero => intro hj; exact (h 0 hj).1
    | succ j ih =>
      intro hj
      have h1 := ih (by omega)
      have h2 := (h (j + 1) hj).2.2 (by omega)
      simp only [Nat.add_sub_cancel] at h2
      omega
  rcases Nat.lt_or_ge 64 l.length with hl | hl
  · have h1 := key (l.length - 1) (by omega)
    have h2 := (h (l.length - 1) (by omega)).2.1
    omega
  · exact hl

end Go.Proofs.Ytjeecdoffoahkaa
