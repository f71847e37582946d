/- siloref0, silolaw0: books, slots; bounds; what is heavy; what is written over. -/
import Derived.Test.YtipecejghioicaaZar
-- from Zcr
-- from Zbr
namespace Go.Proofs.Ytipecejghioicaa
open Go.RowKit Go.Silo

set_option maxHeartbeats 400000 in
theorem EqStripe_c {tg tg' : Bool} {T T' : TypeId} {S S' : Nat → Prop} {w : World} {A A' : Option Addr} {n c n' c' : Nat} {x y : Stripe} (h : Sl tg T slotE w S A n c x.place) (h' : Sl tg' T' slotE w S' A' n' c' y.place) :
    Calls Try.prog 48 #[.agg #[.int .i64 x.id, .int .i64 x.len, .int .i64 x.gen, .slice A n c], .agg #[.int .i64 y.id, .int .i64 y.len, .int .i64 y.gen, .slice A' n' c']] w (RetV (.bool (decide (x = y))) w) := by
  obtain ⟨xi, xl, xg, xp⟩ := x
  obtain ⟨yi, yl, yg, yp⟩ := y
  simp only at h h' ⊢
  rw [show decide ((⟨xi, xl, xg, xp⟩ : Stripe) = ⟨yi, yl, yg, yp⟩) = decide (xi = yi ∧ xl = yl ∧ xg = yg ∧ xp = yp) from decide_eq_decide.2 Stripe.ext_iff']
  generalize hr : decide (xi = yi ∧ xl = yl ∧ xg = yg ∧ xp = yp) = r
  have HR := Lib.hid hr; clear hr
  go_enter Try.func48, Try.ntmps48
  go_wp2_with fail
  · refine (EqSlotList_c (h.all (by repeat' (first | (with_reducible exact Below.refl _ _) | (with_reducible refine Below.alloc ?_ ?_ _) | (with_reducible refine Below.drew ?_) | (with_reducible refine below_drewN ?_ _) | (with_reducible refine Below.setCell ?_ ?_ _) | (refine via ?_ (by with_reducible assumption) ?_) | (refine via ?_ (below_ext _ _) ?_) | go_size))) (h'.all (by repeat' (first | (with_reducible exact Below.refl _ _) | (with_reducible refine Below.alloc ?_ ?_ _) | (with_reducible refine Below.drew ?_) | (with_reducible refine below_drewN ?_ _) | (with_reducible refine Below.setCell ?_ ?_ _) | (refine via ?_ (by with_reducible assumption) ?_) | (refine via ?_ (below_ext _ _) ?_) | go_size)))).mono ?_
    rintro e w1 ⟨rfl, hb⟩
    go_wp2
    go_ret
    exact ⟨by rw [← HR.out]; simp [*], (by repeat' (first | (with_reducible exact Below.refl _ _) | (with_reducible refine Below.alloc ?_ ?_ _) | (with_reducible refine Below.drew ?_) | (with_reducible refine below_drewN ?_ _) | (with_reducible refine Below.setCell ?_ ?_ _) | (refine via ?_ (by with_reducible assumption) ?_) | (refine via ?_ (below_ext _ _) ?_) | go_size))⟩
  all_goals
    go_ret
    exact ⟨by rw [← HR.out]; simp [*], (by repeat' (first | (with_reducible exact Below.refl _ _) | (with_reducible refine Below.alloc ?_ ?_ _) | (with_reducible refine Below.drew ?_) | (with_reducible refine below_drewN ?_ _) | (with_reducible refine Below.setCell ?_ ?_ _) | (refine via ?_ (by with_reducible assumption) ?_) | (refine via ?_ (below_ext _ _) ?_) | go_size))⟩

set_option maxHeartbeats 1000000 in
theorem EqStripes_c {tg tg' tg1 tg1' : Bool} {T T' : TypeId} {S S' : Nat → Prop} {w : World} {A A' : Option Addr} {n c n' c' : Nat} {xs ys : List (Stripe)} (h : Sl tg T (stripeE tg1) w S A n c xs) (h' : Sl tg' T' (stripeE tg1') w S' A' n' c' ys) :
    Calls Try.prog 21 #[.slice A n c, .slice A' n' c'] w (RetV (.bool (decide (xs = ys))) w) := by
  have HL := Lib.hid h.len
  have HL' := Lib.hid h'.len
  have hcap : n ≤ 9223372036854775807 := Nat.le_trans h.le h.cap
  by_cases hne : n = n'
  · subst hne
    go_enter Try.func21, Try.ntmps21
    go_wp2
    go_loopw [5] (fun i wr => ∃ k : Nat, k ≤ n ∧ i = .int .i64 k ∧ Below w.heap.size w wr ∧ Hid (xs.take k = ys.take k)) (fun i _ => n - (intOf i).toNat)
    case atStart => exact ⟨0, Nat.zero_le _, rfl, Below.refl _ _, Lib.hid (by simp)⟩
    case round =>
      obtain ⟨k, hk, rfl, hB, he⟩ := hrel
      by_cases hlt : k < n
      · obtain ⟨b, off, A1, n1, c1, rfl, hS, hbl, g1, g2, g3, h1, hc0, hc1, hc2, hc3, _, _, _, _⟩ := (h.all hB).stripe_at hlt
        obtain ⟨b', off', A1', n1', c1', rfl, hS', hbl', g1', g2', g3', h1', hc0', hc1', hc2', hc3', _, _, _, _⟩ := (h'.all hB).stripe_at hlt
        generalize hx : xs.getD k default = x at *
        generalize hy : ys.getD k default = y at *
        have HX := Lib.hid hx; clear hx
        have HY := Lib.hid hy; clear hy
        have HB := Lib.hid hB; clear hB
        have hext := cell_ext wr
        by_cases hxy : x = y
        · have hc := fun X => (EqStripe_c (h1.all (by repeat' (first | (with_reducible exact Below.refl _ _) | (with_reducible refine Below.alloc ?_ ?_ _) | (with_reducible refine Below.drew ?_) | (with_reducible refine below_drewN ?_ _) | (with_reducible refine Below.setCell ?_ ?_ _) | (refine via ?_ (by with_reducible assumption) ?_) | (refine via ?_ (below_ext _ _) ?_) | go_size))) (h1'.all (by repeat' (first | (with_reducible exact Below.refl _ _) | (with_reducible refine Below.alloc ?_ ?_ _) | (with_reducible refine Below.drew ?_) | (with_reducible refine below_drewN ?_ _) | (with_reducible refine Below.setCell ?_ ?_ _) | (refine via ?_ (by with_reducible assumption) ?_) | (refine via ?_ (below_ext _ _) ?_) | go_size))) : Calls _ _ _ (wr.ext X) _)
          rw [decide_eq_true hxy] at hc
          have HC := Lib.hid hc; clear hc
          have HXY := Lib.hid hxy; clear hxy
          go_wp2
          refine region_ext (by kernel_rfl) (by kernel_rfl) ?_
          repeat (go_big_quiet_step ((go_at_call 48; exact RetV.ext (HC.out _))))
          refine wpQuiet_nil ?_
          rintro _ ⟨X, rfl⟩
          go_wp2
          go_roundw
          case rel =>
            have hB := HB.out
            exact ⟨k + 1, by omega, by go_num, (by repeat' (first | (with_reducible exact Below.refl _ _) | (with_reducible refine Below.alloc ?_ ?_ _) | (with_reducible refine Below.drew ?_) | (with_reducible refine below_drewN ?_ _) | (with_reducible refine Below.setCell ?_ ?_ _) | (refine via ?_ (by with_reducible assumption) ?_) | (refine via ?_ (below_ext _ _) ?_) | go_size)), Lib.hid (take_eq_snoc he.out (by rw [HL.out]; exact hlt) (by rw [HL'.out]; exact hlt) (HX.out.trans (HXY.out.trans HY.out.symm)))⟩
          case measure => simp [intOf]; omega
        · have hc := fun X => (EqStripe_c (h1.all (by repeat' (first | (with_reducible exact Below.refl _ _) | (with_reducible refine Below.alloc ?_ ?_ _) | (with_reducible refine Below.drew ?_) | (with_reducible refine below_drewN ?_ _) | (with_reducible refine Below.setCell ?_ ?_ _) | (refine via ?_ (by with_reducible assumption) ?_) | (refine via ?_ (below_ext _ _) ?_) | go_size))) (h1'.all (by repeat' (first | (with_reducible exact Below.refl _ _) | (with_reducible refine Below.alloc ?_ ?_ _) | (with_reducible refine Below.drew ?_) | (with_reducible refine below_drewN ?_ _) | (with_reducible refine Below.setCell ?_ ?_ _) | (refine via ?_ (by with_reducible assumption) ?_) | (refine via ?_ (below_ext _ _) ?_) | go_size))) : Calls _ _ _ (wr.ext X) _)
          rw [decide_eq_false hxy] at hc
          have HC := Lib.hid hc; clear hc
          have HF : Hid (xs ≠ ys) := Lib.hid (fun e => by subst e; exact hxy (HX.out.symm.trans HY.out))
          clear hxy
          go_wp2
          refine region_ext (by kernel_rfl) (by kernel_rfl) ?_
          repeat (go_big_quiet_step ((go_at_call 48; exact RetV.ext (HC.out _))))
          refine wpQuiet_nil ?_
          rintro _ ⟨X, rfl⟩
          go_wp2
          go_ret
          have hB := HB.out
          exact ⟨by rw [decide_eq_false HF.out]; rfl, (by repeat' (first | (with_reducible exact Below.refl _ _) | (with_reducible refine Below.alloc ?_ ?_ _) | (with_reducible refine Below.drew ?_) | (with_reducible refine below_drewN ?_ _) | (with_reducible refine Below.setCell ?_ ?_ _) | (refine via ?_ (by with_reducible assumption) ?_) | (refine via ?_ (below_ext _ _) ?_) | go_size))⟩
      · go_wp2
        go_ret
        obtain rfl : k = n := by omega
        have e := he.out
        rw [List.take_of_length_le (by rw [HL.out]; exact Nat.le_refl _), List.take_of_length_le (by rw [HL'.out]; exact Nat.le_refl _)] at e
        exact ⟨by rw [decide_eq_true e]; rfl, hB⟩
  · have hne' : ((n : Int) != (n' : Int)) = true := by simp; omega
    have HF : Hid (xs ≠ ys) := Lib.hid (fun e => by subst e; exact hne (HL.out.symm.trans HL'.out))
    go_enter Try.func21, Try.ntmps21
    go_wp2
    go_ret
    exact ⟨by rw [decide_eq_false HF.out]; rfl, Below.refl _ _⟩


end Go.Proofs.Ytipecejghioicaa
namespace Go.Proofs.Ytipecejghioicaa
open Go.RowKit Go.Silo

set_option maxHeartbeats 1000000 in
theorem EqEntry_c {tg tg' : Bool} {T T' : TypeId} {S S' : Nat → Prop} {w : World} {A A' : Option Addr} {n c n' c' : Nat} {x y : Entry} (h : Sl tg T intE w S A n c x.list) (h' : Sl tg' T' intE w S' A' n' c' y.list) :
    Calls Try.prog 49 #[.agg #[.string x.digest, .int .i64 x.len, .bool x.man, .slice A n c], .agg #[.string y.digest, .int .i64 y.len, .bool y.man, .slice A' n' c']] w (RetV (.bool (decide (x = y))) w) := by
  obtain ⟨xi, xl, xg, xp⟩ := x
  obtain ⟨yi, yl, yg, yp⟩ := y
  simp only at h h' ⊢
  rw [show decide ((⟨xi, xl, xg, xp⟩ : Entry) = ⟨yi, yl, yg, yp⟩) = decide (xi = yi ∧ xl = yl ∧ xg = yg ∧ xp = yp) from decide_eq_decide.2 Entry.ext_iff']
  generalize hr : decide (xi = yi ∧ xl = yl ∧ xg = yg ∧ xp = yp) = r
  have HR := Lib.hid hr; clear hr
  go_enter Try.func49, Try.ntmps49
  go_wp2_with (go_at_call 71; refine (EqNumbers_c (h.all (by repeat' (first | (with_reducible exact Below.refl _ _) | (with_reducible refine Below.alloc ?_ ?_ _) | (with_reducible refine Below.drew ?_) | (with_reducible refine below_drewN ?_ _) | (with_reducible refine Below.setCell ?_ ?_ _) | (refine via ?_ (by with_reducible assumption) ?_) | (refine via ?_ (below_ext _ _) ?_) | go_size))) (h'.all (by repeat' (first | (with_reducible exact Below.refl _ _) | (with_reducible refine Below.alloc ?_ ?_ _) | (with_reducible refine Below.drew ?_) | (with_reducible refine below_drewN ?_ _) | (with_reducible refine Below.setCell ?_ ?_ _) | (refine via ?_ (by with_reducible assumption) ?_) | (refine via ?_ (below_ext _ _) ?_) | go_size)))).mono ?_; rintro e w1 ⟨rfl, hb1⟩)
  all_goals
    go_ret
    exact ⟨by rw [← HR.out]; simp_all [toList_inj], (by repeat' (first | (with_reducible exact Below.refl _ _) | (with_reducible refine Below.alloc ?_ ?_ _) | (with_reducible refine Below.drew ?_) | (with_reducible refine below_drewN ?_ _) | (with_reducible refine Below.setCell ?_ ?_ _) | (refine via ?_ (by with_reducible assumption) ?_) | (refine via ?_ (below_ext _ _) ?_) | go_size))⟩

set_option maxHeartbeats 1000000 in
theorem EqEntries_c {tg tg' tg1 tg1' : Bool} {T T' : TypeId} {S S' : Nat → Prop} {w : World} {A A' : Option Addr} {n c n' c' : Nat} {xs ys : List (Entry)} (h : Sl tg T (entryE tg1) w S A n c xs) (h' : Sl tg' T' (entryE tg1') w S' A' n' c' ys) :
    Calls Try.prog 22 #[.slice A n c, .slice A' n' c'] w (RetV (.bool (decide (xs = ys))) w) := by
  have HL := Lib.hid h.len
  have HL' := Lib.hid h'.len
  have hcap : n ≤ 9223372036854775807 := Nat.le_trans h.le h.cap
  by_cases hne : n = n'
  · subst hne
    go_enter Try.func22, Try.ntmps22
    go_wp2
    go_loopw [5] (fun i wr => ∃ k : Nat, k ≤ n ∧ i = .int .i64 k ∧ Below w.heap.size w wr ∧ Hid (xs.take k = ys.take k)) (fun i _ => n - (intOf i).toNat)
    case atStart => exact ⟨0, Nat.zero_le _, rfl, Below.refl _ _, Lib.hid (by simp)⟩
    case round =>
      obtain ⟨k, hk, rfl, hB, he⟩ := hrel
      by_cases hlt : k < n
      · obtain ⟨b, off, A1, n1, c1, rfl, hS, hbl, g1, g2, h1, hc0, hc1, hc2, hc3, _, _, _, _⟩ := (h.all hB).entry_at hlt
        obtain ⟨b', off', A1', n1', c1', rfl, hS', hbl', g1', g2', h1', hc0', hc1', hc2', hc3', _, _, _, _⟩ := (h'.all hB).entry_at hlt
        generalize hx : xs.getD k default = x at *
        generalize hy : ys.getD k default = y at *
        have HX := Lib.hid hx; clear hx
        have HY := Lib.hid hy; clear hy
        have HB := Lib.hid hB; clear hB
        have hext := cell_ext wr
        by_cases hxy : x = y
        · have hc := fun X => (EqEntry_c (h1.all (by repeat' (first | (with_reducible exact Below.refl _ _) | (with_reducible refine Below.alloc ?_ ?_ _) | (with_reducible refine Below.drew ?_) | (with_reducible refine below_drewN ?_ _) | (with_reducible refine Below.setCell ?_ ?_ _) | (refine via ?_ (by with_reducible assumption) ?_) | (refine via ?_ (below_ext _ _) ?_) | go_size))) (h1'.all (by repeat' (first | (with_reducible exact Below.refl _ _) | (with_reducible refine Below.alloc ?_ ?_ _) | (with_reducible refine Below.drew ?_) | (with_reducible refine below_drewN ?_ _) | (with_reducible refine Below.setCell ?_ ?_ _) | (refine via ?_ (by with_reducible assumption) ?_) | (refine via ?_ (below_ext _ _) ?_) | go_size))) : Calls _ _ _ (wr.ext X) _)
          rw [decide_eq_true hxy] at hc
          have HC := Lib.hid hc; clear hc
          have HXY := Lib.hid hxy; clear hxy
          go_wp2
          refine region_ext (by kernel_rfl) (by kernel_rfl) ?_
          repeat (go_big_quiet_step ((go_at_call 49; exact RetV.ext (HC.out _))))
          refine wpQuiet_nil ?_
          rintro _ ⟨X, rfl⟩
          go_wp2
          go_roundw
          case rel =>
            have hB := HB.out
            exact ⟨k + 1, by omega, by go_num, (by repeat' (first | (with_reducible exact Below.refl _ _) | (with_reducible refine Below.alloc ?_ ?_ _) | (with_reducible refine Below.drew ?_) | (with_reducible refine below_drewN ?_ _) | (with_reducible refine Below.setCell ?_ ?_ _) | (refine via ?_ (by with_reducible assumption) ?_) | (refine via ?_ (below_ext _ _) ?_) | go_size)), Lib.hid (take_eq_snoc he.out (by rw [HL.out]; exact hlt) (by rw [HL'.out]; exact hlt) (HX.out.trans (HXY.out.trans HY.out.symm)))⟩
          case measure => simp [intOf]; omega
        · have hc := fun X => (EqEntry_c (h1.all (by repeat' (first | (with_reducible exact Below.refl _ _) | (with_reducible refine Below.alloc ?_ ?_ _) | (with_reducible refine Below.drew ?_) | (with_reducible refine below_drewN ?_ _) | (with_reducible refine Below.setCell ?_ ?_ _) | (refine via ?_ (by with_reducible assumption) ?_) | (refine via ?_ (below_ext _ _) ?_) | go_size))) (h1'.all (by repeat' (first | (with_reducible exact Below.refl _ _) | (with_reducible refine Below.alloc ?_ ?_ _) | (with_reducible refine Below.drew ?_) | (with_reducible refine below_drewN ?_ _) | (with_reducible refine Below.setCell ?_ ?_ _) | (refine via ?_ (by with_reducible assumption) ?_) | (refine via ?_ (below_ext _ _) ?_) | go_size))) : Calls _ _ _ (wr.ext X) _)
          rw [decide_eq_false hxy] at hc
          have HC := Lib.hid hc; clear hc
          have HF : Hid (xs ≠ ys) := Lib.hid (fun e => by subst e; exact hxy (HX.out.symm.trans HY.out))
          clear hxy
          go_wp2
          refine region_ext (by kernel_rfl) (by kernel_rfl) ?_
          repeat (go_big_quiet_step ((go_at_call 49; exact RetV.ext (HC.out _))))
          refine wpQuiet_nil ?_
          rintro _ ⟨X, rfl⟩
          go_wp2
          go_ret
          have hB := HB.out
          exact ⟨by rw [decide_eq_false HF.out]; rfl, (by repeat' (first | (with_reducible exact Below.refl _ _) | (with_reducible refine Below.alloc ?_ ?_ _) | (with_reducible refine Below.drew ?_) | (with_reducible refine below_drewN ?_ _) | (with_reducible refine Below.setCell ?_ ?_ _) | (refine via ?_ (by with_reducible assumption) ?_) | (refine via ?_ (below_ext _ _) ?_) | go_size))⟩
      · go_wp2
        go_ret
        obtain rfl : k = n := by omega
        have e := he.out
        rw [List.take_of_length_le (by rw [HL.out]; exact Nat.le_refl _), List.take_of_length_le (by rw [HL'.out]; exact Nat.le_refl _)] at e
        exact ⟨by rw [decide_eq_true e]; rfl, hB⟩
  · have hne' : ((n : Int) != (n' : Int)) = true := by simp; omega
    have HF : Hid (xs ≠ ys) := Lib.hid (fun e => by subst e; exact hne (HL.out.symm.trans HL'.out))
    go_enter Try.func22, Try.ntmps22
    go_wp2
    go_ret
    exact ⟨by rw [decide_eq_false HF.out]; rfl, Below.refl _ _⟩

theorem Try.info_Stripe : (Try.prog.info? 69).map (fun i => (i.zero, i.size, i.bytes)) = some (some (.agg #[.int .i64 0, .int .i64 0, .int .i64 0, .slice none 0 0]), 4, 48) := by kernel_rfl
theorem Try.info_Entry : (Try.prog.info? 71).map (fun i => (i.zero, i.size, i.bytes)) = some (some (.agg #[.string ByteArray.empty, .int .i64 0, .bool false, .slice none 0 0]), 4, 56) := by kernel_rfl
end Go.Proofs.Ytipecejghioicaa
namespace Go.Proofs.Ytipecejghioicaa
open Go.RowKit Go.Silo

set_option maxHeartbeats 1000000 in
theorem EqBook_c {tg tg' : Bool} {S S' : Nat → Prop} {w : World} {A0 A1 A2 A0' A1' A2' : Option Addr} {n0 c0 n1 c1 n2 c2 n0' c0' n1' c1' n2' c2' : Nat} {x y : Book}
    (h0 : Sl tg 69 (stripeE tg) w S A0 n0 c0 x.stripes) (h1 : Sl tg 71 (entryE tg) w S A1 n1 c1 x.things) (h2 : Sl tg 73 tagE w S A2 n2 c2 x.tags)
    (h0' : Sl tg' 69 (stripeE tg') w S' A0' n0' c0' y.stripes) (h1' : Sl tg' 71 (entryE tg') w S' A1' n1' c1' y.things) (h2' : Sl tg' 73 tagE w S' A2' n2' c2' y.tags) :
    Calls Try.prog 9 #[.agg #[.slice A0 n0 c0, .slice A1 n1 c1, .slice A2 n2 c2, .int .i64 x.next], .agg #[.slice A0' n0' c0', .slice A1' n1' c1', .slice A2' n2' c2', .int .i64 y.next]] w (RetV (.bool (decide (x = y))) w) := by
  rw [show decide (x = y) = decide (x.stripes = y.stripes ∧ x.things = y.things ∧ x.tags = y.tags ∧ x.next = y.next) from decide_eq_decide.2 Book.ext_iff']
  generalize hr : decide (x.stripes = y.stripes ∧ x.things = y.things ∧ x.tags = y.tags ∧ x.next = y.next) = r
  have HR := Lib.hid hr; clear hr
  obtain ⟨xs, xt, xg, xn⟩ := x
  obtain ⟨ys, yt, yg, yn⟩ := y
  simp only at h0 h1 h2 h0' h1' h2' HR ⊢
  go_enter Try.func9, Try.ntmps9
  go_wp2_with (first
    | (go_at_call 21; refine (EqStripes_c (h0.all (by repeat' (first | (with_reducible exact Below.refl _ _) | (with_reducible refine Below.alloc ?_ ?_ _) | (with_reducible refine Below.drew ?_) | (with_reducible refine below_drewN ?_ _) | (with_reducible refine Below.setCell ?_ ?_ _) | (refine via ?_ (by with_reducible assumption) ?_) | (refine via ?_ (below_ext _ _) ?_) | go_size))) (h0'.all (by repeat' (first | (with_reducible exact Below.refl _ _) | (with_reducible refine Below.alloc ?_ ?_ _) | (with_reducible refine Below.drew ?_) | (with_reducible refine below_drewN ?_ _) | (with_reducible refine Below.setCell ?_ ?_ _) | (refine via ?_ (by with_reducible assumption) ?_) | (refine via ?_ (below_ext _ _) ?_) | go_size)))).mono ?_; rintro e w1 ⟨rfl, hb1⟩; (obtain ⟨hc_w1, hf_w1⟩ := bcell hb1; have z_w1_0 : w.heap.size < w1.heap.size := (by have := hb1.size; first | omega | (simp at this; omega)); have z_w1_1 : w.heap.size + 1 < w1.heap.size := (by have := hb1.size; first | omega | (simp at this; omega))))
    | (go_at_call 22; refine (EqEntries_c (h1.all (by repeat' (first | (with_reducible exact Below.refl _ _) | (with_reducible refine Below.alloc ?_ ?_ _) | (with_reducible refine Below.drew ?_) | (with_reducible refine below_drewN ?_ _) | (with_reducible refine Below.setCell ?_ ?_ _) | (refine via ?_ (by with_reducible assumption) ?_) | (refine via ?_ (below_ext _ _) ?_) | go_size))) (h1'.all (by repeat' (first | (with_reducible exact Below.refl _ _) | (with_reducible refine Below.alloc ?_ ?_ _) | (with_reducible refine Below.drew ?_) | (with_reducible refine below_drewN ?_ _) | (with_reducible refine Below.setCell ?_ ?_ _) | (refine via ?_ (by with_reducible assumption) ?_) | (refine via ?_ (below_ext _ _) ?_) | go_size)))).mono ?_; rintro e w2 ⟨rfl, hb2⟩; (obtain ⟨hc_w2, hf_w2⟩ := bcell hb2; have z_w2_0 : w.heap.size < w2.heap.size := (by have := hb2.size; first | omega | (simp at this; omega)); have z_w2_1 : w.heap.size + 1 < w2.heap.size := (by have := hb2.size; first | omega | (simp at this; omega))))
    | (go_at_call 23; refine (EqTags_c (h2.all (by repeat' (first | (with_reducible exact Below.refl _ _) | (with_reducible refine Below.alloc ?_ ?_ _) | (with_reducible refine Below.drew ?_) | (with_reducible refine below_drewN ?_ _) | (with_reducible refine Below.setCell ?_ ?_ _) | (refine via ?_ (by with_reducible assumption) ?_) | (refine via ?_ (below_ext _ _) ?_) | go_size))) (h2'.all (by repeat' (first | (with_reducible exact Below.refl _ _) | (with_reducible refine Below.alloc ?_ ?_ _) | (with_reducible refine Below.drew ?_) | (with_reducible refine below_drewN ?_ _) | (with_reducible refine Below.setCell ?_ ?_ _) | (refine via ?_ (by with_reducible assumption) ?_) | (refine via ?_ (below_ext _ _) ?_) | go_size)))).mono ?_; rintro e w3 ⟨rfl, hb3⟩; (obtain ⟨hc_w3, hf_w3⟩ := bcell hb3; have z_w3_0 : w.heap.size < w3.heap.size := (by have := hb3.size; first | omega | (simp at this; omega)); have z_w3_1 : w.heap.size + 1 < w3.heap.size := (by have := hb3.size; first | omega | (simp at this; omega)))))
  all_goals
    go_ret
    exact ⟨by rw [← HR.out]; first | (simp [*]; done) | (simp [*]; rw [Bool.eq_iff_iff]; simp), (by repeat' (first | (with_reducible exact Below.refl _ _) | (with_reducible refine Below.alloc ?_ ?_ _) | (with_reducible refine Below.drew ?_) | (with_reducible refine below_drewN ?_ _) | (with_reducible refine Below.setCell ?_ ?_ _) | (refine via ?_ (by with_reducible assumption) ?_) | (refine via ?_ (below_ext _ _) ?_) | go_size))⟩

end Go.Proofs.Ytipecejghioicaa
