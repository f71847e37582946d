/- book.Stripe: a stripe is looked for among those by rising IDs. -/
import Derived.Test.YtipecejghioicaaS7r
import Derived.Deep.CutBlock
import Derived.Deep.Cut
namespace Go.Proofs.Ytipecejghioicaa
open Go.RowKit Go.Silo

set_option maxHeartbeats 2000000 in
theorem byID_c {w : World} {a b c x : Int} {P : Value} :
    Calls Try.prog 60 #[.agg #[.int .i64 a, .int .i64 b, .int .i64 c, P], .int .i64 x] w (RetV (.int .i64 (cmp3 a x)) w) := by
  go_enter Try.func60, Try.ntmps60
  go_wp2_with fail
  refine (Compare_c (a := a) (b := x)).mono ?_
  rintro e w1 ⟨rfl, hb1⟩
  (obtain ⟨hc_w1, hf_w1⟩ := bcell hb1; have z_w1_0 : w.heap.size < w1.heap.size := (by have := hb1.size; first | omega | (simp at this; omega)))
  go_wp2
  go_ret
  exact ⟨by trivial, (by repeat' (first | (with_reducible exact Below.refl _ _) | (with_reducible refine Below.alloc ?_ ?_ _) | (with_reducible refine Below.drew ?_) | (with_reducible refine below_drewN ?_ _) | (with_reducible refine Below.setCell ?_ ?_ _) | (refine via ?_ (by with_reducible assumption) ?_) | (refine via ?_ (below_ext _ _) ?_) | go_size))⟩
/-- What the search answers: how many lie ahead, whether there is one. -/
def RetFound (l : List Stripe) (x : Int) (w : World) (e : Ending) (w' : World) : Prop :=
  ∃ i : Nat, i ≤ l.length ∧ e = .returned (.tuple #[.int .i64 (i : Int), .bool (decide (i < l.length ∧ (l.getD i default).id = x))]) ∧ (∀ j, j < i → (l.getD j default).id < x) ∧ (∀ j, i ≤ j → j < l.length → x ≤ (l.getD j default).id) ∧ Below w.heap.size w w'
set_option maxRecDepth 100000 in
set_option maxHeartbeats 4000000 in
theorem search_c {tg tg1 : Bool} {T : TypeId} {S : Nat → Prop} {w : World} {A : Option Addr} {n c : Nat} {l : List Stripe} {x : Int} (h : Sl tg T (stripeE tg1) w S A n c l) (hn : n < 4611686018427387904)
    (hs : ∀ i j, i < j → j < n → (l.getD i default).id < (l.getD j default).id) :
    Calls Try.prog 59 #[.slice A n c, .int .i64 x, .func (.func 60) #[] #[]] w (RetFound l x w) := by
  have HL := Lib.hid h.len
  have HS := Lib.hid hs; clear hs
  go_enter Try.func59, Try.ntmps59
  go_wp2_with fail
  go_loopw [9, 10] (fun lo hi wr => ∃ a b : Nat, a ≤ b ∧ b ≤ n ∧ lo = .int .i64 a ∧ hi = .int .i64 b ∧ Hid (Below w.heap.size w wr) ∧ Hid ((∀ j, j < a → (l.getD j default).id < x) ∧ (∀ j, b ≤ j → j < n → x ≤ (l.getD j default).id))) (fun lo hi _ => (intOf hi).toNat - (intOf lo).toNat)
  case atStart => exact ⟨0, n, Nat.zero_le _, Nat.le_refl _, rfl, rfl, Lib.hid (Below.refl _ _), Lib.hid ⟨fun j hj => by omega, fun j h1 h2 => by omega⟩⟩
  case round =>
    rename World => wo
    obtain ⟨a, b, hab, hbn, rfl, rfl, HB, HI⟩ := hrel
    by_cases hlt : a < b
    · obtain ⟨m, hm⟩ : ∃ m : Nat, m = (a + b) / 2 := ⟨_, rfl⟩
      have hm1 : ((a : Int) + (b : Int)) / 2 = (m : Int) := by omega
      have hma : a ≤ m := by omega
      have hmb : m < b := by omega
      have hmn : m < n := by omega
      clear hm
      go_upto_region 5 with (fail)
      clear hm1
      obtain ⟨bs, os, A3, n3, c3, rfl, _, hbl, _, _, _, _, z0, z1, z2, z3, _⟩ := (h.all HB.out).stripe_at hmn
      have HV := Lib.hid (fun j => (⟨fun hj => by
          rcases Nat.lt_or_ge j m with h' | h'
          · exact HS.out j m h' hmn
          · omega, fun h1 h2 => by
          rcases Nat.lt_or_ge m j with h' | h'
          · exact HS.out m j h' h2
          · omega⟩ : (j < m → (l.getD j default).id < (l.getD m default).id) ∧ (m < j → j < n → (l.getD m default).id < (l.getD j default).id)))
      generalize hid : (l.getD m default).id = y at *
      have HID := Lib.hid hid; clear hid
      go_wp2_with fail
      refine (byID_c (a := y)).mono ?_
      clear z0 z1 z2 z3
      rintro e w1 ⟨rfl, hb1⟩
      have HB1 := Lib.hid (HB.out.trans (hb1.mono HB.out.size)); clear hb1
      have hneg := @cmp3_neg y x
      generalize cmp3 y x = v at *
      by_cases hv : v < 0
      · have hyx := hneg.1 hv
        have HI2 : Hid ((∀ j, j < m + 1 → (l.getD j default).id < x) ∧ (∀ j, b ≤ j → j < n → x ≤ (l.getD j default).id)) := Lib.hid ⟨fun j hj => by
          rcases Nat.lt_or_ge j m with h' | h'
          · have := (HV.out j).1 h'; omega
          · obtain rfl : j = m := by omega
            rw [HID.out]; exact hyx, HI.out.2⟩
        clear hneg hyx
        go_wp2
        exact ⟨⟨m + 1, b, by omega, hbn, by go_num, rfl, HB1, HI2⟩, by simp [intOf]; omega⟩
      · have hyx : ¬ y < x := fun h => hv (hneg.2 h)
        have HI2 : Hid ((∀ j, j < a → (l.getD j default).id < x) ∧ (∀ j, m ≤ j → j < n → x ≤ (l.getD j default).id)) := Lib.hid ⟨HI.out.1, fun j h1 h2 => by
          rcases Nat.lt_or_ge m j with h' | h'
          · have := (HV.out j).2 h' h2; omega
          · obtain rfl : j = m := by omega
            rw [HID.out]; omega⟩
        clear hneg hyx
        go_wp2
        exact ⟨⟨a, m, hma, by omega, rfl, rfl, HB1, HI2⟩, by simp [intOf]; omega⟩
    · obtain rfl : a = b := by omega
      by_cases hn' : a < n
      · obtain ⟨bs, os, A3, n3, c3, rfl, _, hbl, _, _, _, _, z0, z1, z2, z3, _⟩ := (h.all HB.out).stripe_at hn'
        generalize hid : (l.getD a default).id = y at *
        have HID := Lib.hid hid; clear hid
        go_wp2_with fail
        refine (byID_c (a := y)).mono ?_
        clear z0 z1 z2 z3
        rintro e w1 ⟨rfl, hb1⟩
        have HB1 := Lib.hid (HB.out.trans (hb1.mono HB.out.size)); clear hb1
        have hz : (cmp3 y x == 0) = decide (y = x) := by
          unfold cmp3
          rcases Int.lt_trichotomy y x with h' | h' | h'
          · rw [if_pos h', decide_eq_false (by omega)]; rfl
          · subst h'; rw [if_neg (by omega), if_neg (by omega), decide_eq_true rfl]; rfl
          · rw [if_neg (by omega), if_pos h', decide_eq_false (by omega)]; rfl
        generalize cmp3 y x = v at *
        go_wp2
        refine bodyPost_ret (v := .tuple #[.int .i64 (a : Int), .bool (v == 0)]) (by simp [results, Try.results59, go_sem, *]; done) rfl ?_
        exact ⟨a, by have := HL.out; omega, by rw [hz]; congr 4; rw [HID.out]; have := HL.out; simp; omega, HI.out.1, fun j h1 h2 => HI.out.2 j h1 (by have := HL.out; omega), HB1.out⟩
      · go_wp2
        refine bodyPost_ret (v := .tuple #[.int .i64 (a : Int), .bool false]) (by simp [results, Try.results59, go_sem, *]; done) rfl ?_
        exact ⟨a, by have := HL.out; omega, by rw [decide_eq_false (fun h => hn' (by have := HL.out; omega))], HI.out.1, fun j h1 h2 => HI.out.2 j h1 (by have := HL.out; omega), HB.out⟩
end Go.Proofs.Ytipecejghioicaa
