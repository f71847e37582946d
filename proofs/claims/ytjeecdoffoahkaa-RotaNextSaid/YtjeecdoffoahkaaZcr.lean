/- siloref0: structures, second part: equal? a copy. -/
import Derived.Test.YtjeecdoffoahkaaZbr
namespace Go.Proofs.Ytjeecdoffoahkaa
open Go.RowKit Go.Silo

set_option maxHeartbeats 1000000 in
theorem EqEntry_c {tg tg' : Bool} {T T' : TypeId} {S S' : Nat → Prop} {w : World} {A A' : Option Addr} {n c n' c' : Nat} {x y : Entry} (h : Sl tg T intE w S A n c x.list) (h' : Sl tg' T' intE w S' A' n' c' y.list) :
    Calls Try.prog 127 #[.agg #[.string x.digest, .int .i64 x.len, .bool x.man, .slice A n c], .agg #[.string y.digest, .int .i64 y.len, .bool y.man, .slice A' n' c']] w (RetV (.bool (decide (x = y))) w) := by
  obtain ⟨xi, xl, xg, xp⟩ := x
  obtain ⟨yi, yl, yg, yp⟩ := y
  simp only at h h' ⊢
  rw [show decide ((⟨xi, xl, xg, xp⟩ : Entry) = ⟨yi, yl, yg, yp⟩) = decide (xi = yi ∧ xl = yl ∧ xg = yg ∧ xp = yp) from decide_eq_decide.2 Entry.ext_iff']
  generalize hr : decide (xi = yi ∧ xl = yl ∧ xg = yg ∧ xp = yp) = r
  have HR := Lib.hid hr; clear hr
  go_enter Try.func127, Try.ntmps127
  go_wp2_with (go_at_call 94; refine (EqNumbers_c (h.all (by repeat' (first | (with_reducible exact Below.refl _ _) | (with_reducible refine Below.alloc ?_ ?_ _) | (with_reducible refine Below.drew ?_) | (with_reducible refine below_drewN ?_ _) | (with_reducible refine Below.setCell ?_ ?_ _) | (refine via ?_ (by with_reducible assumption) ?_) | (refine via ?_ (below_ext _ _) ?_) | go_size))) (h'.all (by repeat' (first | (with_reducible exact Below.refl _ _) | (with_reducible refine Below.alloc ?_ ?_ _) | (with_reducible refine Below.drew ?_) | (with_reducible refine below_drewN ?_ _) | (with_reducible refine Below.setCell ?_ ?_ _) | (refine via ?_ (by with_reducible assumption) ?_) | (refine via ?_ (below_ext _ _) ?_) | go_size)))).mono ?_; rintro e w1 ⟨rfl, hb1⟩)
  all_goals
    go_ret
    exact ⟨by rw [← HR.out]; simp_all [toList_inj], (by repeat' (first | (with_reducible exact Below.refl _ _) | (with_reducible refine Below.alloc ?_ ?_ _) | (with_reducible refine Below.drew ?_) | (with_reducible refine below_drewN ?_ _) | (with_reducible refine Below.setCell ?_ ?_ _) | (refine via ?_ (by with_reducible assumption) ?_) | (refine via ?_ (below_ext _ _) ?_) | go_size))⟩

set_option maxHeartbeats 400000 in
theorem CopyEntry_c {tg : Bool} {T : TypeId} {S : Nat → Prop} {w : World} {A : Option Addr} {n c : Nat} {x : Entry} (hok : StrOk x.digest ∧ I64 x.len) (h : Sl tg T intE w S A n c x.list) (hn : n ≤ 100000000) :
    Calls Try.prog 124 #[.agg #[.string x.digest, .int .i64 x.len, .bool x.man, .slice A n c]] w (RetE (entryE true) w x) := by
  go_enter Try.func124, Try.ntmps124
  go_wp2_with fail
  refine (CopyNumbers_c (h.all (by repeat' (first | (with_reducible exact Below.refl _ _) | (with_reducible refine Below.alloc ?_ ?_ _) | (with_reducible refine Below.drew ?_) | (with_reducible refine below_drewN ?_ _) | (with_reducible refine Below.setCell ?_ ?_ _) | (refine via ?_ (by with_reducible assumption) ?_) | (refine via ?_ (below_ext _ _) ?_) | go_size))) hn).mono ?_
  rintro e w1 ⟨A3, c3, rfl, hown3, hb3⟩
  obtain ⟨hc, hf⟩ := bcell hb3
  have hs3 := hb3.size
  simp only [World.size_alloc] at hs3
  go_wp2_with fail
  refine bodyPost_ret (v := .agg #[.string x.digest, .int .i64 x.len, .bool x.man, .slice A3 x.list.length c3]) (by simp [results, Try.results124, go_sem, hc]; done) rfl ?_
  have hr := (hown3.sl (tg := true)).mono (S' := fun b => w.heap.size + 3 ≤ b) (fun b hb _ => by simp at hb; omega)
  exact ⟨_, rfl, ⟨_, _, _, rfl, hok, (hr.keep (by repeat' (first | (with_reducible exact Keeps.refl _ _) | (with_reducible refine Keeps.alloc ?_ _) | (with_reducible refine Keeps.drew ?_) | (with_reducible refine Keeps.drewN ?_ _) | (with_reducible refine Keeps.setCell ?_ ?_ _) | (refine Keeps.call ?_ (by with_reducible assumption)) | (with_reducible refine Keeps.ext ?_ _) | (simp; done) | (simp; omega) | omega))).mono (fun b hb _ => by omega)⟩, (by repeat' (first | (with_reducible exact Below.refl _ _) | (with_reducible refine Below.alloc ?_ ?_ _) | (with_reducible refine Below.drew ?_) | (with_reducible refine below_drewN ?_ _) | (with_reducible refine Below.setCell ?_ ?_ _) | (refine via ?_ (by with_reducible assumption) ?_) | (refine via ?_ (below_ext _ _) ?_) | go_size))⟩

set_option maxHeartbeats 1000000 in
theorem EqEntries_c {tg tg' tg1 tg1' : Bool} {T T' : TypeId} {S S' : Nat → Prop} {w : World} {A A' : Option Addr} {n c n' c' : Nat} {xs ys : List (Entry)} (h : Sl tg T (entryE tg1) w S A n c xs) (h' : Sl tg' T' (entryE tg1') w S' A' n' c' ys) :
    Calls Try.prog 74 #[.slice A n c, .slice A' n' c'] w (RetV (.bool (decide (xs = ys))) w) := by
  have HL := Lib.hid h.len
  have HL' := Lib.hid h'.len
  have hcap : n ≤ 9223372036854775807 := Nat.le_trans h.le h.cap
  by_cases hne : n = n'
  · subst hne
    go_enter Try.func74, Try.ntmps74
    go_wp2
    go_loopw [5] (fun i wr => ∃ k : Nat, k ≤ n ∧ i = .int .i64 k ∧ Below w.heap.size w wr ∧ Hid (xs.take k = ys.take k)) (fun i _ => n - (intOf i).toNat)
    case atStart => exact ⟨0, Nat.zero_le _, rfl, Below.refl _ _, Lib.hid (by simp)⟩
    case round =>
      obtain ⟨k, hk, rfl, hB, he⟩ := hrel
      by_cases hlt : k < n
      · obtain ⟨b, off, A1, n1, c1, rfl, hS, hbl, g1, g2, h1, hc0, hc1, hc2, hc3, _, _, _, _⟩ := (h.all hB).entry_at hlt
        obtain ⟨b', off', A1', n1', c1', rfl, hS', hbl', g1', g2', h1', hc0', hc1', hc2', hc3', _, _, _, _⟩ := (h'.all hB).entry_at hlt
        generalize hx : xs.getD k default = x at *
        generalize hy : ys.getD k default = y at *
        have HX := Lib.hid hx; clear hx
        have HY := Lib.hid hy; clear hy
        have HB := Lib.hid hB; clear hB
        have hext := cell_ext wr
        by_cases hxy : x = y
        · have hc := fun X => (EqEntry_c (h1.all (by repeat' (first | (with_reducible exact Below.refl _ _) | (with_reducible refine Below.alloc ?_ ?_ _) | (with_reducible refine Below.drew ?_) | (with_reducible refine below_drewN ?_ _) | (with_reducible refine Below.setCell ?_ ?_ _) | (refine via ?_ (by with_reducible assumption) ?_) | (refine via ?_ (below_ext _ _) ?_) | go_size))) (h1'.all (by repeat' (first | (with_reducible exact Below.refl _ _) | (with_reducible refine Below.alloc ?_ ?_ _) | (with_reducible refine Below.drew ?_) | (with_reducible refine below_drewN ?_ _) | (with_reducible refine Below.setCell ?_ ?_ _) | (refine via ?_ (by with_reducible assumption) ?_) | (refine via ?_ (below_ext _ _) ?_) | go_size))) : Calls _ _ _ (wr.ext X) _)
          rw [decide_eq_true hxy] at hc
          have HC := Lib.hid hc; clear hc
          have HXY := Lib.hid hxy; clear hxy
          go_wp2
          refine region_ext (by kernel_rfl) (by kernel_rfl) ?_
          repeat (go_big_quiet_step ((go_at_call 127; exact RetV.ext (HC.out _))))
          refine wpQuiet_nil ?_
          rintro _ ⟨X, rfl⟩
          go_wp2
          go_roundw
          case rel =>
            have hB := HB.out
            exact ⟨k + 1, by omega, by go_num, (by repeat' (first | (with_reducible exact Below.refl _ _) | (with_reducible refine Below.alloc ?_ ?_ _) | (with_reducible refine Below.drew ?_) | (with_reducible refine below_drewN ?_ _) | (with_reducible refine Below.setCell ?_ ?_ _) | (refine via ?_ (by with_reducible assumption) ?_) | (refine via ?_ (below_ext _ _) ?_) | go_size)), Lib.hid (take_eq_snoc he.out (by rw [HL.out]; exact hlt) (by rw [HL'.out]; exact hlt) (HX.out.trans (HXY.out.trans HY.out.symm)))⟩
          case measure => simp [intOf]; omega
        · have hc := fun X => (EqEntry_c (h1.all (by repeat' (first | (with_reducible exact Below.refl _ _) | (with_reducible refine Below.alloc ?_ ?_ _) | (with_reducible refine Below.drew ?_) | (with_reducible refine below_drewN ?_ _) | (with_reducible refine Below.setCell ?_ ?_ _) | (refine via ?_ (by with_reducible assumption) ?_) | (refine via ?_ (below_ext _ _) ?_) | go_size))) (h1'.all (by repeat' (first | (with_reducible exact Below.refl _ _) | (with_reducible refine Below.alloc ?_ ?_ _) | (with_reducible refine Below.drew ?_) | (with_reducible refine below_drewN ?_ _) | (with_reducible refine Below.setCell ?_ ?_ _) | (refine via ?_ (by with_reducible assumption) ?_) | (refine via ?_ (below_ext _ _) ?_) | go_size))) : Calls _ _ _ (wr.ext X) _)
          rw [decide_eq_false hxy] at hc
          have HC := Lib.hid hc; clear hc
          have HF : Hid (xs ≠ ys) := Lib.hid (fun e => by subst e; exact hxy (HX.out.symm.trans HY.out))
          clear hxy
          go_wp2
          refine region_ext (by kernel_rfl) (by kernel_rfl) ?_
          repeat (go_big_quiet_step ((go_at_call 127; exact RetV.ext (HC.out _))))
          refine wpQuiet_nil ?_
          rintro _ ⟨X, rfl⟩
          go_wp2
          go_ret
          have hB := HB.out
          exact ⟨by rw [decide_eq_false HF.out]; rfl, (by repeat' (first | (with_reducible exact Below.refl _ _) | (with_reducible refine Below.alloc ?_ ?_ _) | (with_reducible refine Below.drew ?_) | (with_reducible refine below_drewN ?_ _) | (with_reducible refine Below.setCell ?_ ?_ _) | (refine via ?_ (by with_reducible assumption) ?_) | (refine via ?_ (below_ext _ _) ?_) | go_size))⟩
      · go_wp2
        go_ret
        obtain rfl : k = n := by omega
        have e := he.out
        rw [List.take_of_length_le (by rw [HL.out]; exact Nat.le_refl _), List.take_of_length_le (by rw [HL'.out]; exact Nat.le_refl _)] at e
        exact ⟨by rw [decide_eq_true e]; rfl, hB⟩
  · have hne' : ((n : Int) != (n' : Int)) = true := by simp; omega
    have HF : Hid (xs ≠ ys) := Lib.hid (fun e => by subst e; exact hne (HL.out.symm.trans HL'.out))
    go_enter Try.func74, Try.ntmps74
    go_wp2
    go_ret
    exact ⟨by rw [decide_eq_false HF.out]; rfl, Below.refl _ _⟩

theorem Try.info_Stripe : (Try.prog.info? 97).map (fun i => (i.zero, i.size, i.bytes)) = some (some (.agg #[.int .i64 0, .int .i64 0, .int .i64 0, .slice none 0 0]), 4, 48) := by kernel_rfl
set_option maxHeartbeats 1000000 in
theorem CopyStripes_c {tg tg1 : Bool} {T : TypeId} {S : Nat → Prop} {w : World} {A : Option Addr} {n c : Nat} {xs : List (Stripe)} (h : Sl tg T (stripeE tg1) w S A n c xs) (hn : n ≤ 100000000) (hx : ∀ x ∈ xs, x.place.length ≤ 100000000) :
    Calls Try.prog 42 #[.slice A n c] w (RetOwn 97 (stripeE true) w xs) := by
  obtain ⟨i0, hi, hz0, hz1, hz2⟩ := info_parts Try.info_Stripe
  have hl := h.len
  have HL := Lib.hid hl
  have HX := Lib.hid hx; clear hx
  go_enter Try.func42, Try.ntmps42
  clear hl
  go_wp2
  go_loopw [3, 4] (fun v i wr => ∃ k : Nat, ∃ A' c', k ≤ n ∧ i = .int .i64 k ∧ v = .slice A' k c' ∧ Own 97 (stripeE true) wr w.heap.size (fun b => w.heap.size ≤ b) A' k c' (xs.take k) ∧ Below w.heap.size w wr) (fun _ i _ => n - (intOf i).toNat)
  case atStart => exact ⟨0, none, 0, Nat.zero_le _, rfl, rfl, by simpa using Own.nil_, Below.refl _ _⟩
  case round =>
    obtain ⟨k, A', c', hk, rfl, rfl, hown, hb⟩ := hrel
    by_cases hlt : k < n
    · have hlx := HX.out (xs.getD k default) (by rw [List.getD_eq_getElem?_getD, List.getElem?_eq_getElem (by have := HL.out; omega)]; exact List.getElem_mem _)
      obtain ⟨b, off, A1, n1, c1, rfl, hS, hbl, g1, g2, g3, h1, hc0, hc1, hc2, hc3, _, _, _, _⟩ := (h.all hb).stripe_at hlt
      generalize hx : xs.getD k default = x at *
      have HXK := Lib.hid hx; clear hx
      have HB := Lib.hid hb
      clear hb
      go_wp2_with fail
      refine (CopyStripe_c ⟨g1, g2, g3⟩ h1 (by first | omega | (have := h1.len; omega))).mono ?_
      rintro e w2 ⟨_, rfl, ⟨A3, n3, c3, rfl, hok3, h3⟩, hb3⟩
      have hownB := hown.all hb3
      have hs3 := hb3.size
      have ho3 := hown.above (fun b hb => Nat.le_trans HB.out.size hb)
      go_wp2_with (at_builtin; refine wpList_append1 rfl _ _ 24 rfl i0 (.agg #[.int .i64 0, .int .i64 0, .int .i64 0, .slice none 0 0]) 48 Try.underlying24 hi hz0 hz1 hz2 rfl (by decide) rfl (hownB.frame (Agree.alloc _ _ _) (by simp)) w2.heap.size 97 1 _ x rfl (heap_alloc_new _ _) ⟨_, _, _, rfl, hok3, ((h3.mono (fun b hb _ => ho3 b hb)).all (by repeat' (first | (with_reducible exact Below.refl _ _) | (with_reducible refine Below.alloc ?_ ?_ _) | (with_reducible refine Below.drew ?_) | (with_reducible refine below_drewN ?_ _) | (with_reducible refine Below.setCell ?_ ?_ _) | (refine via ?_ (by with_reducible assumption) ?_) | (refine via ?_ (below_ext _ _) ?_) | go_size)))⟩ (by omega) (by omega) (by have := HB.out.size; simp; omega) ?_)
      intro A2 c2 w3 hown2 hg2 _
      go_wp2
      go_roundw
      case rel =>
        have hb := HB.out
        refine ⟨k + 1, A2, c2, by omega, by go_num, rfl, ?_, ?_⟩
        · rw [take_snoc_getD (d := default) (by have := HL.out; omega), HXK.out]; exact hown2
        · exact ((via hb hb3 (Nat.le_refl _)).alloc (by have := hb.size; omega) _).grown hg2 (by have := hb.size; simp; omega) (fun k hk => (hownB.lt k hk).1)
      case measure => simp [intOf]; omega
    · go_wp2
      go_ret
      obtain rfl : k = n := by omega
      have e1 := HL.out
      subst e1
      rw [List.take_length] at hown
      exact ⟨A', c', rfl, hown, hb⟩

theorem Try.info_Entry : (Try.prog.info? 130).map (fun i => (i.zero, i.size, i.bytes)) = some (some (.agg #[.string ByteArray.empty, .int .i64 0, .bool false, .slice none 0 0]), 4, 56) := by kernel_rfl
set_option maxHeartbeats 1000000 in
theorem CopyEntries_c {tg tg1 : Bool} {T : TypeId} {S : Nat → Prop} {w : World} {A : Option Addr} {n c : Nat} {xs : List (Entry)} (h : Sl tg T (entryE tg1) w S A n c xs) (hn : n ≤ 100000000) (hx : ∀ x ∈ xs, x.list.length ≤ 100000000) :
    Calls Try.prog 70 #[.slice A n c] w (RetOwn 130 (entryE true) w xs) := by
  obtain ⟨i0, hi, hz0, hz1, hz2⟩ := info_parts Try.info_Entry
  have hl := h.len
  have HL := Lib.hid hl
  have HX := Lib.hid hx; clear hx
  go_enter Try.func70, Try.ntmps70
  clear hl
  go_wp2
  go_loopw [3, 4] (fun v i wr => ∃ k : Nat, ∃ A' c', k ≤ n ∧ i = .int .i64 k ∧ v = .slice A' k c' ∧ Own 130 (entryE true) wr w.heap.size (fun b => w.heap.size ≤ b) A' k c' (xs.take k) ∧ Below w.heap.size w wr) (fun _ i _ => n - (intOf i).toNat)
  case atStart => exact ⟨0, none, 0, Nat.zero_le _, rfl, rfl, by simpa using Own.nil_, Below.refl _ _⟩
  case round =>
    obtain ⟨k, A', c', hk, rfl, rfl, hown, hb⟩ := hrel
    by_cases hlt : k < n
    · have hlx := HX.out (xs.getD k default) (by rw [List.getD_eq_getElem?_getD, List.getElem?_eq_getElem (by have := HL.out; omega)]; exact List.getElem_mem _)
      obtain ⟨b, off, A1, n1, c1, rfl, hS, hbl, g1, g2, h1, hc0, hc1, hc2, hc3, _, _, _, _⟩ := (h.all hb).entry_at hlt
      generalize hx : xs.getD k default = x at *
      have HXK := Lib.hid hx; clear hx
      have HB := Lib.hid hb
      clear hb
      go_wp2_with fail
      refine (CopyEntry_c ⟨g1, g2⟩ h1 (by first | omega | (have := h1.len; omega))).mono ?_
      rintro e w2 ⟨_, rfl, ⟨A3, n3, c3, rfl, hok3, h3⟩, hb3⟩
      have hownB := hown.all hb3
      have hs3 := hb3.size
      have ho3 := hown.above (fun b hb => Nat.le_trans HB.out.size hb)
      go_wp2_with (at_builtin; refine wpList_append1 rfl _ _ 25 rfl i0 (.agg #[.string ByteArray.empty, .int .i64 0, .bool false, .slice none 0 0]) 56 Try.underlying25 hi hz0 hz1 hz2 rfl (by decide) rfl (hownB.frame (Agree.alloc _ _ _) (by simp)) w2.heap.size 130 1 _ x rfl (heap_alloc_new _ _) ⟨_, _, _, rfl, hok3, ((h3.mono (fun b hb _ => ho3 b hb)).all (by repeat' (first | (with_reducible exact Below.refl _ _) | (with_reducible refine Below.alloc ?_ ?_ _) | (with_reducible refine Below.drew ?_) | (with_reducible refine below_drewN ?_ _) | (with_reducible refine Below.setCell ?_ ?_ _) | (refine via ?_ (by with_reducible assumption) ?_) | (refine via ?_ (below_ext _ _) ?_) | go_size)))⟩ (by omega) (by omega) (by have := HB.out.size; simp; omega) ?_)
      intro A2 c2 w3 hown2 hg2 _
      go_wp2
      go_roundw
      case rel =>
        have hb := HB.out
        refine ⟨k + 1, A2, c2, by omega, by go_num, rfl, ?_, ?_⟩
        · rw [take_snoc_getD (d := default) (by have := HL.out; omega), HXK.out]; exact hown2
        · exact ((via hb hb3 (Nat.le_refl _)).alloc (by have := hb.size; omega) _).grown hg2 (by have := hb.size; simp; omega) (fun k hk => (hownB.lt k hk).1)
      case measure => simp [intOf]; omega
    · go_wp2
      go_ret
      obtain rfl : k = n := by omega
      have e1 := HL.out
      subst e1
      rw [List.take_length] at hown
      exact ⟨A', c', rfl, hown, hb⟩

end Go.Proofs.Ytjeecdoffoahkaa
