/- siloref0: lists of flat data: equal? a copy. Printed by gen_z.py. -/
import Derived.Test.YtipecejghioicaaProg
import Derived.Test.YtipecejghioicaaDatar
import Derived.Outline
import Derived.BigQuiet
import Derived.Deep.QuietTactic
import Derived.WalkSpells
import Derived.Laws.StructEq
namespace Go.Proofs.Ytipecejghioicaa
open Go.RowKit Go.Silo


theorem take_eq_snoc {β : Type} {xs ys : List β} {k : Nat} {d : β} (h : xs.take k = ys.take k) (h1 : k < xs.length) (h2 : k < ys.length) (he : xs.getD k d = ys.getD k d) : xs.take (k + 1) = ys.take (k + 1) := by
  rw [take_snoc_getD (d := d) h1, take_snoc_getD (d := d) h2, h, he]
theorem toList_inj {a b : ByteArray} : a.toList = b.toList ↔ a = b := ⟨fun h => by
  rw [ByteArray.toList_eq, ByteArray.toList_eq] at h
  obtain ⟨⟨x⟩⟩ := a; obtain ⟨⟨y⟩⟩ := b
  have : x = y := h
  subst this; rfl, fun h => by rw [h]⟩

theorem Try.info_Int : (Try.prog.info? 3).map (fun i => (i.zero, i.size, i.bytes)) = some (some (.int .i64 0), 1, 8) := by kernel_rfl

theorem Try.info_Slot : (Try.prog.info? 67).map (fun i => (i.zero, i.size, i.bytes)) = some (some (.agg #[.int .i64 0, .int .i64 0]), 2, 16) := by kernel_rfl

theorem Try.info_Tag : (Try.prog.info? 73).map (fun i => (i.zero, i.size, i.bytes)) = some (some (.agg #[.string ByteArray.empty, .string ByteArray.empty]), 2, 32) := by kernel_rfl

theorem eqv_Slot (x y : Slot) (W : World) : (Op.equalIn 10000 67 (.agg #[.int .i64 x.disk, .int .i64 x.pos]) (.agg #[.int .i64 y.disk, .int .i64 y.pos])).run Try.prog W = .ok (decide (x = y)) W := by
  have hs : Try.prog.stoodInHeld 67 = false := by kernel_rfl
  have hf : Try.prog.underlying 67 = some (.struct (Try.prog.fieldsOf 67)) := by kernel_rfl
  rw [run_equalIn_struct W 9999 67 _ _ hf hs]
  rw [show decide (x = y) = decide (x.disk = y.disk ∧ x.pos = y.pos) from decide_eq_decide.2 Slot.ext_iff']
  simp [go_sem, Try.underlying67, Try.underlying3]
  by_cases h : x.disk = y.disk <;> by_cases h2 : x.pos = y.pos <;> simp [h, h2]
theorem eqg_Slot : Try.prog.eqGuardType Try.prog.depth 67 = false := by kernel_rfl


theorem eqv_Tag (x y : Tag) (W : World) : (Op.equalIn 10000 73 (.agg #[.string x.name, .string x.digest]) (.agg #[.string y.name, .string y.digest])).run Try.prog W = .ok (decide (x = y)) W := by
  have hs : Try.prog.stoodInHeld 73 = false := by kernel_rfl
  have hf : Try.prog.underlying 73 = some (.struct (Try.prog.fieldsOf 73)) := by kernel_rfl
  rw [run_equalIn_struct W 9999 73 _ _ hf hs]
  rw [show decide (x = y) = decide (x.name = y.name ∧ x.digest = y.digest) from decide_eq_decide.2 Tag.ext_iff']
  simp [go_sem, Try.underlying73, Try.underlying9]
  by_cases h : x.name = y.name <;> by_cases h2 : x.digest = y.digest <;> simp [h, h2, toList_inj]
theorem eqg_Tag : Try.prog.eqGuardType Try.prog.depth 73 = false := by kernel_rfl


set_option maxHeartbeats 400000 in
theorem EqNumbers_c {tg tg' : Bool} {T T' : TypeId} {S S' : Nat → Prop} {w : World} {A A' : Option Addr} {n c n' c' : Nat} {xs ys : List Int} (h : Sl tg T intE w S A n c xs) (h' : Sl tg' T' intE w S' A' n' c' ys) :
    Calls Try.prog 71 #[.slice A n c, .slice A' n' c'] w (RetV (.bool (decide (xs = ys))) w) := by
  have HL := Lib.hid h.len
  have HL' := Lib.hid h'.len
  have hcap : n ≤ 9223372036854775807 := Nat.le_trans h.le h.cap
  by_cases hne : n = n'
  · subst hne
    go_enter Try.func71, Try.ntmps71
    go_wp2
    go_loopw [5] (fun i wr => ∃ k q : Nat, k ≤ n ∧ i = .int .i64 k ∧ wr = w.drewN q ∧ Hid (xs.take k = ys.take k)) (fun i _ => n - (intOf i).toNat)
    case atStart => exact ⟨0, 0, Nat.zero_le _, rfl, rfl, Lib.hid (by simp)⟩
    case round =>
      obtain ⟨k, q, hk, rfl, rfl, he⟩ := hrel
      by_cases hlt : k < n
      · obtain ⟨b, off, rfl, hS, hbl, g1, hc0, _⟩ := h.int_at hlt
        obtain ⟨b', off', rfl, hS', hbl', g1', hc0', _⟩ := h'.int_at hlt
        generalize hx : xs.getD k 0 = x at *
        generalize hy : ys.getD k 0 = y at *
        have HX := Lib.hid hx; clear hx
        have HY := Lib.hid hy; clear hy
        by_cases hxy : x = y
        · subst hxy
          skip
          go_wp2
          go_quiet (fail)
          go_wp2
          go_roundw
          case rel => exact ⟨k + 1, _, by omega, by go_num, rfl, Lib.hid (take_eq_snoc he.out (by rw [HL.out]; exact hlt) (by rw [HL'.out]; exact hlt) (HX.out.trans HY.out.symm))⟩
          case measure => simp [intOf]; omega
        · have hxy' : (x != y) = true := by simpa using hxy
          have HF : Hid (xs ≠ ys) := Lib.hid (fun e => by subst e; exact hxy (HX.out.symm.trans HY.out))
          clear hxy
          go_wp2
          go_quiet (fail)
          go_wp2
          go_ret
          exact ⟨by rw [decide_eq_false HF.out]; rfl, (below_drewN (below_drewN (Below.refl _ _) _) _)⟩
      · go_wp2
        go_ret
        obtain rfl : k = n := by omega
        have e := he.out
        rw [List.take_of_length_le (by rw [HL.out]; exact Nat.le_refl _), List.take_of_length_le (by rw [HL'.out]; exact Nat.le_refl _)] at e
        exact ⟨by rw [decide_eq_true e]; rfl, (below_drewN (Below.refl _ _) _)⟩
  · have hne' : ((n : Int) != (n' : Int)) = true := by simp; omega
    have HF : Hid (xs ≠ ys) := Lib.hid (fun e => by subst e; exact hne (HL.out.symm.trans HL'.out))
    go_enter Try.func71, Try.ntmps71
    go_wp2
    go_ret
    exact ⟨by rw [decide_eq_false HF.out]; rfl, Below.refl _ _⟩


set_option maxHeartbeats 400000 in
theorem EqSlotList_c {tg tg' : Bool} {T T' : TypeId} {S S' : Nat → Prop} {w : World} {A A' : Option Addr} {n c n' c' : Nat} {xs ys : List Slot} (h : Sl tg T slotE w S A n c xs) (h' : Sl tg' T' slotE w S' A' n' c' ys) :
    Calls Try.prog 70 #[.slice A n c, .slice A' n' c'] w (RetV (.bool (decide (xs = ys))) w) := by
  have HL := Lib.hid h.len
  have HL' := Lib.hid h'.len
  have hcap : n ≤ 9223372036854775807 := Nat.le_trans h.le h.cap
  by_cases hne : n = n'
  · subst hne
    go_enter Try.func70, Try.ntmps70
    go_wp2
    go_loopw [5] (fun i wr => ∃ k q : Nat, k ≤ n ∧ i = .int .i64 k ∧ wr = w.drewN q ∧ Hid (xs.take k = ys.take k)) (fun i _ => n - (intOf i).toNat)
    case atStart => exact ⟨0, 0, Nat.zero_le _, rfl, rfl, Lib.hid (by simp)⟩
    case round =>
      obtain ⟨k, q, hk, rfl, rfl, he⟩ := hrel
      by_cases hlt : k < n
      · obtain ⟨b, off, rfl, hS, hbl, g1, g2, hc0, hc1, _, _⟩ := h.slot_at hlt
        obtain ⟨b', off', rfl, hS', hbl', g1', g2', hc0', hc1', _, _⟩ := h'.slot_at hlt
        generalize hx : xs.getD k default = x at *
        generalize hy : ys.getD k default = y at *
        have HX := Lib.hid hx; clear hx
        have HY := Lib.hid hy; clear hy
        by_cases hxy : x = y
        · subst hxy
          have hq : ∀ W : World, (Op.equalIn 10000 67 (.agg #[.int .i64 x.disk, .int .i64 x.pos]) (.agg #[.int .i64 x.disk, .int .i64 x.pos])).run Try.prog W = .ok true W := fun W => by rw [eqv_Slot]; simp
          have hqg := eqg_Slot
          go_wp2
          go_quiet (fail)
          go_wp2
          go_roundw
          case rel => exact ⟨k + 1, _, by omega, by go_num, rfl, Lib.hid (take_eq_snoc he.out (by rw [HL.out]; exact hlt) (by rw [HL'.out]; exact hlt) (HX.out.trans HY.out.symm))⟩
          case measure => simp [intOf]; omega
        · have hq : ∀ W : World, (Op.equalIn 10000 67 (.agg #[.int .i64 x.disk, .int .i64 x.pos]) (.agg #[.int .i64 y.disk, .int .i64 y.pos])).run Try.prog W = .ok false W := fun W => by rw [eqv_Slot, decide_eq_false hxy]
          have hqg := eqg_Slot
          have HF : Hid (xs ≠ ys) := Lib.hid (fun e => by subst e; exact hxy (HX.out.symm.trans HY.out))
          clear hxy
          go_wp2
          go_quiet (fail)
          go_wp2
          go_ret
          exact ⟨by rw [decide_eq_false HF.out]; rfl, (below_drewN (below_drewN (Below.refl _ _) _) _)⟩
      · go_wp2
        go_ret
        obtain rfl : k = n := by omega
        have e := he.out
        rw [List.take_of_length_le (by rw [HL.out]; exact Nat.le_refl _), List.take_of_length_le (by rw [HL'.out]; exact Nat.le_refl _)] at e
        exact ⟨by rw [decide_eq_true e]; rfl, (below_drewN (Below.refl _ _) _)⟩
  · have hne' : ((n : Int) != (n' : Int)) = true := by simp; omega
    have HF : Hid (xs ≠ ys) := Lib.hid (fun e => by subst e; exact hne (HL.out.symm.trans HL'.out))
    go_enter Try.func70, Try.ntmps70
    go_wp2
    go_ret
    exact ⟨by rw [decide_eq_false HF.out]; rfl, Below.refl _ _⟩


set_option maxHeartbeats 400000 in
theorem EqTags_c {tg tg' : Bool} {T T' : TypeId} {S S' : Nat → Prop} {w : World} {A A' : Option Addr} {n c n' c' : Nat} {xs ys : List Tag} (h : Sl tg T tagE w S A n c xs) (h' : Sl tg' T' tagE w S' A' n' c' ys) :
    Calls Try.prog 23 #[.slice A n c, .slice A' n' c'] w (RetV (.bool (decide (xs = ys))) w) := by
  have HL := Lib.hid h.len
  have HL' := Lib.hid h'.len
  have hcap : n ≤ 9223372036854775807 := Nat.le_trans h.le h.cap
  by_cases hne : n = n'
  · subst hne
    go_enter Try.func23, Try.ntmps23
    go_wp2
    go_loopw [5] (fun i wr => ∃ k q : Nat, k ≤ n ∧ i = .int .i64 k ∧ wr = w.drewN q ∧ Hid (xs.take k = ys.take k)) (fun i _ => n - (intOf i).toNat)
    case atStart => exact ⟨0, 0, Nat.zero_le _, rfl, rfl, Lib.hid (by simp)⟩
    case round =>
      obtain ⟨k, q, hk, rfl, rfl, he⟩ := hrel
      by_cases hlt : k < n
      · obtain ⟨b, off, rfl, hS, hbl, g1, g2, hc0, hc1, _, _⟩ := h.tag_at hlt
        obtain ⟨b', off', rfl, hS', hbl', g1', g2', hc0', hc1', _, _⟩ := h'.tag_at hlt
        generalize hx : xs.getD k default = x at *
        generalize hy : ys.getD k default = y at *
        have HX := Lib.hid hx; clear hx
        have HY := Lib.hid hy; clear hy
        by_cases hxy : x = y
        · subst hxy
          have hq : ∀ W : World, (Op.equalIn 10000 73 (.agg #[.string x.name, .string x.digest]) (.agg #[.string x.name, .string x.digest])).run Try.prog W = .ok true W := fun W => by rw [eqv_Tag]; simp
          have hqg := eqg_Tag
          go_wp2
          go_quiet (fail)
          go_wp2
          go_roundw
          case rel => exact ⟨k + 1, _, by omega, by go_num, rfl, Lib.hid (take_eq_snoc he.out (by rw [HL.out]; exact hlt) (by rw [HL'.out]; exact hlt) (HX.out.trans HY.out.symm))⟩
          case measure => simp [intOf]; omega
        · have hq : ∀ W : World, (Op.equalIn 10000 73 (.agg #[.string x.name, .string x.digest]) (.agg #[.string y.name, .string y.digest])).run Try.prog W = .ok false W := fun W => by rw [eqv_Tag, decide_eq_false hxy]
          have hqg := eqg_Tag
          have HF : Hid (xs ≠ ys) := Lib.hid (fun e => by subst e; exact hxy (HX.out.symm.trans HY.out))
          clear hxy
          go_wp2
          go_quiet (fail)
          go_wp2
          go_ret
          exact ⟨by rw [decide_eq_false HF.out]; rfl, (below_drewN (below_drewN (Below.refl _ _) _) _)⟩
      · go_wp2
        go_ret
        obtain rfl : k = n := by omega
        have e := he.out
        rw [List.take_of_length_le (by rw [HL.out]; exact Nat.le_refl _), List.take_of_length_le (by rw [HL'.out]; exact Nat.le_refl _)] at e
        exact ⟨by rw [decide_eq_true e]; rfl, (below_drewN (Below.refl _ _) _)⟩
  · have hne' : ((n : Int) != (n' : Int)) = true := by simp; omega
    have HF : Hid (xs ≠ ys) := Lib.hid (fun e => by subst e; exact hne (HL.out.symm.trans HL'.out))
    go_enter Try.func23, Try.ntmps23
    go_wp2
    go_ret
    exact ⟨by rw [decide_eq_false HF.out]; rfl, Below.refl _ _⟩


end Go.Proofs.Ytipecejghioicaa
