/- siloref0: structures and lists of them: equal? a copy. -/
import Derived.Test.YtjeecdoffoahkaaZar
namespace Go.Proofs.Ytjeecdoffoahkaa
open Go.RowKit Go.Silo

set_option maxHeartbeats 400000 in
theorem EqStripe_c {tg tg' : Bool} {T T' : TypeId} {S S' : Nat → Prop} {w : World} {A A' : Option Addr} {n c n' c' : Nat} {x y : Stripe} (h : Sl tg T slotE w S A n c x.place) (h' : Sl tg' T' slotE w S' A' n' c' y.place) :
    Calls Try.prog 52 #[.agg #[.int .i64 x.id, .int .i64 x.len, .int .i64 x.gen, .slice A n c], .agg #[.int .i64 y.id, .int .i64 y.len, .int .i64 y.gen, .slice A' n' c']] w (RetV (.bool (decide (x = y))) w) := by
  obtain ⟨xi, xl, xg, xp⟩ := x
  obtain ⟨yi, yl, yg, yp⟩ := y
  simp only at h h' ⊢
  rw [show decide ((⟨xi, xl, xg, xp⟩ : Stripe) = ⟨yi, yl, yg, yp⟩) = decide (xi = yi ∧ xl = yl ∧ xg = yg ∧ xp = yp) from decide_eq_decide.2 Stripe.ext_iff']
  generalize hr : decide (xi = yi ∧ xl = yl ∧ xg = yg ∧ xp = yp) = r
  have HR := Lib.hid hr; clear hr
  go_enter Try.func52, Try.ntmps52
  go_wp2_with fail
  · refine (EqSlotList_c (h.all (by repeat' (first | (with_reducible exact Below.refl _ _) | (with_reducible refine Below.alloc ?_ ?_ _) | (with_reducible refine Below.drew ?_) | (with_reducible refine below_drewN ?_ _) | (with_reducible refine Below.setCell ?_ ?_ _) | (refine via ?_ (by with_reducible assumption) ?_) | (refine via ?_ (below_ext _ _) ?_) | go_size))) (h'.all (by repeat' (first | (with_reducible exact Below.refl _ _) | (with_reducible refine Below.alloc ?_ ?_ _) | (with_reducible refine Below.drew ?_) | (with_reducible refine below_drewN ?_ _) | (with_reducible refine Below.setCell ?_ ?_ _) | (refine via ?_ (by with_reducible assumption) ?_) | (refine via ?_ (below_ext _ _) ?_) | go_size)))).mono ?_
    rintro e w1 ⟨rfl, hb⟩
    go_wp2
    go_ret
    exact ⟨by rw [← HR.out]; simp [*], (by repeat' (first | (with_reducible exact Below.refl _ _) | (with_reducible refine Below.alloc ?_ ?_ _) | (with_reducible refine Below.drew ?_) | (with_reducible refine below_drewN ?_ _) | (with_reducible refine Below.setCell ?_ ?_ _) | (refine via ?_ (by with_reducible assumption) ?_) | (refine via ?_ (below_ext _ _) ?_) | go_size))⟩
  all_goals
    go_ret
    exact ⟨by rw [← HR.out]; simp [*], (by repeat' (first | (with_reducible exact Below.refl _ _) | (with_reducible refine Below.alloc ?_ ?_ _) | (with_reducible refine Below.drew ?_) | (with_reducible refine below_drewN ?_ _) | (with_reducible refine Below.setCell ?_ ?_ _) | (refine via ?_ (by with_reducible assumption) ?_) | (refine via ?_ (below_ext _ _) ?_) | go_size))⟩

set_option maxHeartbeats 400000 in
theorem CopyStripe_c {tg : Bool} {T : TypeId} {S : Nat → Prop} {w : World} {A : Option Addr} {n c : Nat} {x : Stripe} (hok : I64 x.id ∧ I64 x.len ∧ I64 x.gen) (h : Sl tg T slotE w S A n c x.place) (hn : n ≤ 100000000) :
    Calls Try.prog 90 #[.agg #[.int .i64 x.id, .int .i64 x.len, .int .i64 x.gen, .slice A n c]] w (RetE (stripeE true) w x) := by
  go_enter Try.func90, Try.ntmps90
  go_wp2_with fail
  refine (CopySlotList_c (h.all (by repeat' (first | (with_reducible exact Below.refl _ _) | (with_reducible refine Below.alloc ?_ ?_ _) | (with_reducible refine Below.drew ?_) | (with_reducible refine below_drewN ?_ _) | (with_reducible refine Below.setCell ?_ ?_ _) | (refine via ?_ (by with_reducible assumption) ?_) | (refine via ?_ (below_ext _ _) ?_) | go_size))) hn).mono ?_
  rintro e w1 ⟨A3, c3, rfl, hown3, hb3⟩
  obtain ⟨hc, hf⟩ := bcell hb3
  have hs3 := hb3.size
  simp only [World.size_alloc] at hs3
  go_wp2_with fail
  refine bodyPost_ret (v := .agg #[.int .i64 x.id, .int .i64 x.len, .int .i64 x.gen, .slice A3 x.place.length c3]) (by simp [results, Try.results90, go_sem, hc]; done) rfl ?_
  have hr := (hown3.sl (tg := true)).mono (S' := fun b => w.heap.size + 3 ≤ b) (fun b hb _ => by simp at hb; omega)
  exact ⟨_, rfl, ⟨_, _, _, rfl, hok, (hr.keep (by repeat' (first | (with_reducible exact Keeps.refl _ _) | (with_reducible refine Keeps.alloc ?_ _) | (with_reducible refine Keeps.drew ?_) | (with_reducible refine Keeps.drewN ?_ _) | (with_reducible refine Keeps.setCell ?_ ?_ _) | (refine Keeps.call ?_ (by with_reducible assumption)) | (with_reducible refine Keeps.ext ?_ _) | (simp; done) | (simp; omega) | omega))).mono (fun b hb _ => by omega)⟩, (by repeat' (first | (with_reducible exact Below.refl _ _) | (with_reducible refine Below.alloc ?_ ?_ _) | (with_reducible refine Below.drew ?_) | (with_reducible refine below_drewN ?_ _) | (with_reducible refine Below.setCell ?_ ?_ _) | (refine via ?_ (by with_reducible assumption) ?_) | (refine via ?_ (below_ext _ _) ?_) | go_size))⟩


set_option maxHeartbeats 1000000 in
theorem EqStripes_c {tg tg' tg1 tg1' : Bool} {T T' : TypeId} {S S' : Nat → Prop} {w : World} {A A' : Option Addr} {n c n' c' : Nat} {xs ys : List (Stripe)} (h : Sl tg T (stripeE tg1) w S A n c xs) (h' : Sl tg' T' (stripeE tg1') w S' A' n' c' ys) :
    Calls Try.prog 47 #[.slice A n c, .slice A' n' c'] w (RetV (.bool (decide (xs = ys))) w) := by
  have HL := Lib.hid h.len
  have HL' := Lib.hid h'.len
  have hcap : n ≤ 9223372036854775807 := Nat.le_trans h.le h.cap
  by_cases hne : n = n'
  · subst hne
    go_enter Try.func47, Try.ntmps47
    go_wp2
    go_loopw [5] (fun i wr => ∃ k : Nat, k ≤ n ∧ i = .int .i64 k ∧ Below w.heap.size w wr ∧ Hid (xs.take k = ys.take k)) (fun i _ => n - (intOf i).toNat)
    case atStart => exact ⟨0, Nat.zero_le _, rfl, Below.refl _ _, Lib.hid (by simp)⟩
    case round =>
      obtain ⟨k, hk, rfl, hB, he⟩ := hrel
      by_cases hlt : k < n
      · obtain ⟨b, off, A1, n1, c1, rfl, hS, hbl, g1, g2, g3, h1, hc0, hc1, hc2, hc3, _, _, _, _⟩ := (h.all hB).stripe_at hlt
        obtain ⟨b', off', A1', n1', c1', rfl, hS', hbl', g1', g2', g3', h1', hc0', hc1', hc2', hc3', _, _, _, _⟩ := (h'.all hB).stripe_at hlt
        generalize hx : xs.getD k default = x at *
        generalize hy : ys.getD k default = y at *
        have HX := Lib.hid hx; clear hx
        have HY := Lib.hid hy; clear hy
        have HB := Lib.hid hB; clear hB
        have hext := cell_ext wr
        by_cases hxy : x = y
        · have hc := fun X => (EqStripe_c (h1.all (by repeat' (first | (with_reducible exact Below.refl _ _) | (with_reducible refine Below.alloc ?_ ?_ _) | (with_reducible refine Below.drew ?_) | (with_reducible refine below_drewN ?_ _) | (with_reducible refine Below.setCell ?_ ?_ _) | (refine via ?_ (by with_reducible assumption) ?_) | (refine via ?_ (below_ext _ _) ?_) | go_size))) (h1'.all (by repeat' (first | (with_reducible exact Below.refl _ _) | (with_reducible refine Below.alloc ?_ ?_ _) | (with_reducible refine Below.drew ?_) | (with_reducible refine below_drewN ?_ _) | (with_reducible refine Below.setCell ?_ ?_ _) | (refine via ?_ (by with_reducible assumption) ?_) | (refine via ?_ (below_ext _ _) ?_) | go_size))) : Calls _ _ _ (wr.ext X) _)
          rw [decide_eq_true hxy] at hc
          have HC := Lib.hid hc; clear hc
          have HXY := Lib.hid hxy; clear hxy
          go_wp2
          refine region_ext (by kernel_rfl) (by kernel_rfl) ?_
          repeat (go_big_quiet_step ((go_at_call 52; exact RetV.ext (HC.out _))))
          refine wpQuiet_nil ?_
          rintro _ ⟨X, rfl⟩
          go_wp2
          go_roundw
          case rel =>
            have hB := HB.out
            exact ⟨k + 1, by omega, by go_num, (by repeat' (first | (with_reducible exact Below.refl _ _) | (with_reducible refine Below.alloc ?_ ?_ _) | (with_reducible refine Below.drew ?_) | (with_reducible refine below_drewN ?_ _) | (with_reducible refine Below.setCell ?_ ?_ _) | (refine via ?_ (by with_reducible assumption) ?_) | (refine via ?_ (below_ext _ _) ?_) | go_size)), Lib.hid (take_eq_snoc he.out (by rw [HL.out]; exact hlt) (by rw [HL'.out]; exact hlt) (HX.out.trans (HXY.out.trans HY.out.symm)))⟩
          case measure => simp [intOf]; omega
        · have hc := fun X => (EqStripe_c (h1.all (by repeat' (first | (with_reducible exact Below.refl _ _) | (with_reducible refine Below.alloc ?_ ?_ _) | (with_reducible refine Below.drew ?_) | (with_reducible refine below_drewN ?_ _) | (with_reducible refine Below.setCell ?_ ?_ _) | (refine via ?_ (by with_reducible assumption) ?_) | (refine via ?_ (below_ext _ _) ?_) | go_size))) (h1'.all (by repeat' (first | (with_reducible exact Below.refl _ _) | (with_reducible refine Below.alloc ?_ ?_ _) | (with_reducible refine Below.drew ?_) | (with_reducible refine below_drewN ?_ _) | (with_reducible refine Below.setCell ?_ ?_ _) | (refine via ?_ (by with_reducible assumption) ?_) | (refine via ?_ (below_ext _ _) ?_) | go_size))) : Calls _ _ _ (wr.ext X) _)
          rw [decide_eq_false hxy] at hc
          have HC := Lib.hid hc; clear hc
          have HF : Hid (xs ≠ ys) := Lib.hid (fun e => by subst e; exact hxy (HX.out.symm.trans HY.out))
          clear hxy
          go_wp2
          refine region_ext (by kernel_rfl) (by kernel_rfl) ?_
          repeat (go_big_quiet_step ((go_at_call 52; exact RetV.ext (HC.out _))))
          refine wpQuiet_nil ?_
          rintro _ ⟨X, rfl⟩
          go_wp2
          go_ret
          have hB := HB.out
          exact ⟨by rw [decide_eq_false HF.out]; rfl, (by repeat' (first | (with_reducible exact Below.refl _ _) | (with_reducible refine Below.alloc ?_ ?_ _) | (with_reducible refine Below.drew ?_) | (with_reducible refine below_drewN ?_ _) | (with_reducible refine Below.setCell ?_ ?_ _) | (refine via ?_ (by with_reducible assumption) ?_) | (refine via ?_ (below_ext _ _) ?_) | go_size))⟩
      · go_wp2
        go_ret
        obtain rfl : k = n := by omega
        have e := he.out
        rw [List.take_of_length_le (by rw [HL.out]; exact Nat.le_refl _), List.take_of_length_le (by rw [HL'.out]; exact Nat.le_refl _)] at e
        exact ⟨by rw [decide_eq_true e]; rfl, hB⟩
  · have hne' : ((n : Int) != (n' : Int)) = true := by simp; omega
    have HF : Hid (xs ≠ ys) := Lib.hid (fun e => by subst e; exact hne (HL.out.symm.trans HL'.out))
    go_enter Try.func47, Try.ntmps47
    go_wp2
    go_ret
    exact ⟨by rw [decide_eq_false HF.out]; rfl, Below.refl _ _⟩


end Go.Proofs.Ytjeecdoffoahkaa
