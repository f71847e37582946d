/- slices.Clone at each instance; slots in memory of their own; the numbers from 0 on. Printed by gen_lib.py. -/
import Derived.Test.YtjeecdoffoahkaaS1
import Derived.Lib.SliceRun
import Derived.Deep.RegionLaw
import Derived.Deep.DeepMust
namespace Go.Proofs.Ytjeecdoffoahkaa
open Go.RowKit Go.Silo

/-- A call that makes a new list, whose elements may lead to what lies in S. -/
def RetOwnIn {α : Type} (T : TypeId) (E : Enc α) (w : World) (S : Nat → Prop) (xs : List α) (e : Ending) (w' : World) : Prop :=
  ∃ A c, e = .returned (.slice A xs.length c) ∧ Own T E w' w.heap.size S A xs.length c xs ∧ Below w.heap.size w w'

set_option maxHeartbeats 400000 in
theorem Clone_int {tg : Bool} {T : TypeId} {S : Nat → Prop} {w : World} {A : Option Addr} {n c : Nat} {xs : List (Int)} (h : Sl tg T intE w S A n c xs) (hn : n ≤ 100000000) :
    Calls Try.prog 132 #[.slice A n c] w (RetOwn 3 intE w xs) := by
  obtain ⟨i0, hi, hz0, hz1, hz2⟩ := info_parts Try.info_Int
  have HL := Lib.hid h.len
  have hq := fun W : World => Lib.run_eql_slice_nil (P := Try.prog) W 52 3 A n c 0 0 Try.underlying52
  cases A with
  | none =>
    go_enter Try.func132, Try.ntmps132
    go_wp2
    go_ret
    have hn0 : n = 0 := by
      rcases Nat.eq_zero_or_pos n with h0 | h0
      · exact h0
      · obtain ⟨_, _, e, _⟩ := h.2.2.2 h0; cases e
    subst hn0
    obtain rfl : xs = [] := List.eq_nil_of_length_eq_zero HL.out
    exact ⟨none, 0, rfl, Own.nil_, Below.refl _ _⟩
  | some ad =>
    have hlit : Own 3 intE (w.alloc (.cells #[] 3)) w.heap.size (fun b => w.heap.size ≤ b) (some ⟨w.heap.size, 0, none⟩) 0 0 [] := Own.lit [] [] 0 (Nat.le_refl _) (by omega) (by simp) rfl (fun k y hy => by simp at hy)
    have hsl := (h.lt_block).frame (Agree.alloc _ w (.cells #[] 3)) (by simp)
    rcases Nat.eq_zero_or_pos n with h0 | h0
    · subst h0
      obtain rfl : xs = [] := List.eq_nil_of_length_eq_zero HL.out
      go_enter Try.func132, Try.ntmps132
      go_wp2_with (at_builtin; refine wpList_append_Own rfl _ _ 52 rfl i0 (.int .i64 0) 8 Try.underlying52 hi hz0 hz1 hz2 rfl (by decide) rfl hlit ad 0 _ [] [] rfl (by simp) (fun j u hj => by simp at hj) rfl (fun k y hy => by simp at hy) (fun u hu => by simp at hu) (by omega) (by omega) (by simp) ?_)
      intro A2 c2 w2 hown2 hg2 _
      go_wp2
      go_ret
      exact ⟨A2, c2, rfl, hown2, ((Below.refl _ w).alloc (Nat.le_refl _) _).grown hg2 (by simp) (fun k hk => by simp [ablk] at hk; omega)⟩
    · obtain ⟨b, off, e, _⟩ := h.2.2.2 h0
      injection e with e
      subst e
      go_enter Try.func132, Try.ntmps132
      go_wp2_with (at_builtin; refine wpList_append_sl rfl _ _ 52 rfl i0 (.int .i64 0) 8 Try.underlying52 hi hz0 hz1 hz2 rfl (by decide) rfl hlit rfl hsl (fun vs y _ hR => hR) (by omega) (by omega) (by simp) ?_)
      intro A2 c2 w2 hown2 hg2 _
      try simp only [Nat.zero_add, List.nil_append] at hown2
      have e1 := HL.out
      subst e1
      go_wp2
      go_ret
      exact ⟨A2, c2, by simp, hown2, ((Below.refl _ w).alloc (Nat.le_refl _) _).grown hg2 (by simp) (fun k hk => by simp [ablk] at hk; omega)⟩

set_option maxHeartbeats 400000 in
theorem Clone_bool {tg : Bool} {T : TypeId} {S : Nat → Prop} {w : World} {A : Option Addr} {n c : Nat} {xs : List (Bool)} (h : Sl tg T boolE w S A n c xs) (hn : n ≤ 100000000) :
    Calls Try.prog 131 #[.slice A n c] w (RetOwn 4 boolE w xs) := by
  obtain ⟨i0, hi, hz0, hz1, hz2⟩ := info_parts Try.info_Bool
  have HL := Lib.hid h.len
  have hq := fun W : World => Lib.run_eql_slice_nil (P := Try.prog) W 30 4 A n c 0 0 Try.underlying30
  cases A with
  | none =>
    go_enter Try.func131, Try.ntmps131
    go_wp2
    go_ret
    have hn0 : n = 0 := by
      rcases Nat.eq_zero_or_pos n with h0 | h0
      · exact h0
      · obtain ⟨_, _, e, _⟩ := h.2.2.2 h0; cases e
    subst hn0
    obtain rfl : xs = [] := List.eq_nil_of_length_eq_zero HL.out
    exact ⟨none, 0, rfl, Own.nil_, Below.refl _ _⟩
  | some ad =>
    have hlit : Own 4 boolE (w.alloc (.cells #[] 4)) w.heap.size (fun b => w.heap.size ≤ b) (some ⟨w.heap.size, 0, none⟩) 0 0 [] := Own.lit [] [] 0 (Nat.le_refl _) (by omega) (by simp) rfl (fun k y hy => by simp at hy)
    have hsl := (h.lt_block).frame (Agree.alloc _ w (.cells #[] 4)) (by simp)
    rcases Nat.eq_zero_or_pos n with h0 | h0
    · subst h0
      obtain rfl : xs = [] := List.eq_nil_of_length_eq_zero HL.out
      go_enter Try.func131, Try.ntmps131
      go_wp2_with (at_builtin; refine wpList_append_Own rfl _ _ 30 rfl i0 (.bool false) 1 Try.underlying30 hi hz0 hz1 hz2 rfl (by decide) rfl hlit ad 0 _ [] [] rfl (by simp) (fun j u hj => by simp at hj) rfl (fun k y hy => by simp at hy) (fun u hu => by simp at hu) (by omega) (by omega) (by simp) ?_)
      intro A2 c2 w2 hown2 hg2 _
      go_wp2
      go_ret
      exact ⟨A2, c2, rfl, hown2, ((Below.refl _ w).alloc (Nat.le_refl _) _).grown hg2 (by simp) (fun k hk => by simp [ablk] at hk; omega)⟩
    · obtain ⟨b, off, e, _⟩ := h.2.2.2 h0
      injection e with e
      subst e
      go_enter Try.func131, Try.ntmps131
      go_wp2_with (at_builtin; refine wpList_append_sl rfl _ _ 30 rfl i0 (.bool false) 1 Try.underlying30 hi hz0 hz1 hz2 rfl (by decide) rfl hlit rfl hsl (fun vs y _ hR => hR) (by omega) (by omega) (by simp) ?_)
      intro A2 c2 w2 hown2 hg2 _
      try simp only [Nat.zero_add, List.nil_append] at hown2
      have e1 := HL.out
      subst e1
      go_wp2
      go_ret
      exact ⟨A2, c2, by simp, hown2, ((Below.refl _ w).alloc (Nat.le_refl _) _).grown hg2 (by simp) (fun k hk => by simp [ablk] at hk; omega)⟩

/-- 0, 1, .. up to n. -/
def upto (n : Nat) : List Int := (List.range n).map (fun i : Nat => (i : Int))
theorem upto_snoc (n : Nat) : upto (n + 1) = upto n ++ [(n : Int)] := by simp [upto, List.range_succ]
theorem upto_len (n : Nat) : (upto n).length = n := by simp [upto]

set_option maxHeartbeats 400000 in
theorem All_c {w : World} {n : Nat} (hn : n ≤ 100000000) : Calls Try.prog 109 #[.int .i64 (n : Int)] w (RetOwn 3 intE w (upto n)) := by
  obtain ⟨i0, hi, hz0, hz1, hz2⟩ := info_parts Try.info_Int
  go_enter Try.func109, Try.ntmps109
  go_wp2
  go_loopw [2, 3, 5] (fun v _ i wr => ∃ k : Nat, ∃ A' c', k ≤ n ∧ i = .int .i64 k ∧ v = .slice A' k c' ∧ Own 3 intE wr w.heap.size (fun b => w.heap.size ≤ b) A' k c' (upto k) ∧ Below w.heap.size w wr) (fun _ _ i _ => n - (intOf i).toNat)
  case atStart => exact ⟨0, none, 0, Nat.zero_le _, rfl, rfl, by simpa [upto] using Own.nil_, Below.refl _ _⟩
  case round =>
    obtain ⟨k, A', c', hk, rfl, rfl, hown, hb⟩ := hrel
    by_cases hlt : k < n
    · have HB := Lib.hid hb
      clear hb
      go_wp2_with (at_builtin; refine wpList_append1 rfl _ _ 52 rfl i0 (.int .i64 0) 8 Try.underlying52 hi hz0 hz1 hz2 rfl (by decide) rfl (hown.frame (Agree.alloc _ _ _) (by simp)) wr.heap.size 3 1 _ (k : Int) rfl (heap_alloc_new _ _) ⟨rfl, by constructor <;> omega⟩ (by omega) (by omega) (by have := HB.out.size; simp; omega) ?_)
      intro A2 c2 w2 hown2 hg2 _
      go_wp2
      go_roundw
      case rel =>
        have hb := HB.out
        refine ⟨k + 1, A2, c2, by omega, by go_num, rfl, ?_, ?_⟩
        · rw [upto_snoc]; exact hown2
        · exact (hb.alloc (by have := hb.size; omega) _).grown hg2 (by have := hb.size; simp; omega) (fun k hk => (hown.lt k hk).1)
      case measure => simp [intOf]; omega
    · go_wp2
      go_ret
      obtain rfl : k = n := by omega
      exact ⟨A', c', by rw [upto_len]; rfl, by rw [upto_len]; exact hown, hb⟩

set_option maxHeartbeats 400000 in
theorem refFirst_c {w : World} {n : Nat} (hn : n ≤ 100000000) : Calls Try.prog 110 #[.int .i64 (n : Int)] w (RetOwn 3 intE w (upto n)) := by
  obtain ⟨i0, hi, hz0, hz1, hz2⟩ := info_parts Try.info_Int
  go_enter Try.func110, Try.ntmps110
  go_wp2
  go_loopw [3, 4] (fun v i wr => ∃ k : Nat, ∃ A' c', k ≤ n ∧ i = .int .i64 k ∧ v = .slice A' k c' ∧ Own 3 intE wr w.heap.size (fun b => w.heap.size ≤ b) A' k c' (upto k) ∧ Below w.heap.size w wr) (fun _ i _ => n - (intOf i).toNat)
  case atStart => exact ⟨0, none, 0, Nat.zero_le _, rfl, rfl, by simpa [upto] using Own.nil_, Below.refl _ _⟩
  case round =>
    obtain ⟨k, A', c', hk, rfl, rfl, hown, hb⟩ := hrel
    by_cases hlt : k < n
    · have HB := Lib.hid hb
      clear hb
      go_wp2_with (at_builtin; refine wpList_append1 rfl _ _ 52 rfl i0 (.int .i64 0) 8 Try.underlying52 hi hz0 hz1 hz2 rfl (by decide) rfl (hown.frame (Agree.alloc _ _ _) (by simp)) wr.heap.size 3 1 _ (k : Int) rfl (heap_alloc_new _ _) ⟨rfl, by constructor <;> omega⟩ (by omega) (by omega) (by have := HB.out.size; simp; omega) ?_)
      intro A2 c2 w2 hown2 hg2 _
      go_wp2
      go_roundw
      case rel =>
        have hb := HB.out
        refine ⟨k + 1, A2, c2, by omega, by go_num, rfl, ?_, ?_⟩
        · rw [upto_snoc]; exact hown2
        · exact (hb.alloc (by have := hb.size; omega) _).grown hg2 (by have := hb.size; simp; omega) (fun k hk => (hown.lt k hk).1)
      case measure => simp [intOf]; omega
    · go_wp2
      go_ret
      obtain rfl : k = n := by omega
      exact ⟨A', c', by rw [upto_len]; rfl, by rw [upto_len]; exact hown, hb⟩

theorem flat_any {α : Type} {sz : Nat} {f : α → List Value} {ok : α → Prop} {hl : ∀ x, (f x).length = sz} {h1 : ∀ x, ∀ v ∈ f x, v.oneCell' = true} {w : World} {S S' : Nat → Prop} {vs : List Value} {x : α} (h : (flat sz f ok hl h1).R w S vs x) : (flat sz f ok hl h1).R w S' vs x := h

set_option maxRecDepth 100000 in
set_option maxHeartbeats 2000000 in
theorem Own_c {tg : Bool} {S : Nat → Prop} {w : World} {A0 A1 : Option Addr} {n0 c0 n1 c1 : Nat} {x : SlotsD}
    (h0 : Sl tg 4 boolE w S A0 n0 c0 x.live) (h1 : Sl tg 52 (slE tg 3 intE) w S A1 n1 c1 x.free) (hn0 : n0 ≤ 100000000) (hn1 : n1 ≤ 100000000) (hx : ∀ l ∈ x.free, l.length ≤ 100000000) :
    Calls Try.prog 81 #[.agg #[.slice A0 n0 c0, .slice A1 n1 c1]] w (RetE (slotsDE true) w x) := by
  obtain ⟨i0, hi, hz0, hz1, hz2⟩ := info_parts Try.info_Ints
  have HX := Lib.hid hx; clear hx
  have HL1 := Lib.hid h1.len
  go_enter Try.func81, Try.ntmps81
  go_wp2_with fail
  refine (Clone_bool (h0.all (by repeat' (first | (with_reducible exact Below.refl _ _) | (with_reducible refine Below.alloc ?_ ?_ _) | (with_reducible refine Below.drew ?_) | (with_reducible refine below_drewN ?_ _) | (with_reducible refine Below.setCell ?_ ?_ _) | (refine via ?_ (by with_reducible assumption) ?_) | (refine via ?_ (below_ext _ _) ?_) | go_size))) hn0).mono ?_
  rintro e w1 ⟨A3, c3, rfl, hown3, hb3⟩
  (obtain ⟨hc_w1, hf_w1⟩ := bcell hb3; have z_w1_0 : w.heap.size < w1.heap.size := (by have := hb3.size; first | omega | (simp at this; omega)); have z_w1_1 : w.heap.size + 1 < w1.heap.size := (by have := hb3.size; first | omega | (simp at this; omega)))
  go_wp2_with fail
  go_loopw [5, 13] (fun _ i wr => ∃ k : Nat, ∃ A4 c4, k ≤ n1 ∧ i = .int .i64 k ∧ wr.cell? ⟨w1.heap.size, 0, none⟩ = some (.slice A3 x.live.length c3) ∧ wr.cell? ⟨w1.heap.size, 1, none⟩ = some (.slice A4 k c4) ∧ wr.frozen? ⟨w1.heap.size, 1, none⟩ = false ∧
      Own 52 (slE true 3 intE) wr (w1.heap.size + 1) (fun b => w1.heap.size + 1 ≤ b) A4 k c4 (x.free.take k) ∧ Below w1.heap.size w1 wr ∧ w1.heap.size < wr.heap.size) (fun _ i _ => n1 - (intOf i).toNat)
  case atStart => exact ⟨0, none, 0, Nat.zero_le _, rfl, by simp, by simp, by simp, by simpa using Own.nil_, (by repeat' (first | (with_reducible exact Below.refl _ _) | (with_reducible refine Below.alloc ?_ ?_ _) | (with_reducible refine Below.drew ?_) | (with_reducible refine below_drewN ?_ _) | (with_reducible refine Below.setCell ?_ ?_ _) | (refine via ?_ (by with_reducible assumption) ?_) | (refine via ?_ (below_ext _ _) ?_) | go_size)), by simp⟩
  case round =>
    obtain ⟨k, A4, c4, hk, rfl, hk0, hk1, hkf, hown, hB, hsz⟩ := hrel
    by_cases hlt : k < n1
    · have hBw : Below w.heap.size w wr := (by repeat' (first | (with_reducible exact Below.refl _ _) | (with_reducible refine Below.alloc ?_ ?_ _) | (with_reducible refine Below.drew ?_) | (with_reducible refine below_drewN ?_ _) | (with_reducible refine Below.setCell ?_ ?_ _) | (refine via ?_ (by with_reducible assumption) ?_) | (refine via ?_ (below_ext _ _) ?_) | go_size))
      obtain ⟨b, off, A2, n2, c2, rfl, hS, hbl, h2, hc0, _⟩ := (h1.all hBw).sl_at hlt
      have hlx := HX.out _ (getD_mem (d := []) (show k < x.free.length by have := HL1.out; omega))
      have hl2 := h2.len
      have hn2 : n2 ≤ 100000000 := by omega
      clear hlx
      have HL2 := Lib.hid hl2; clear hl2
      have HB := Lib.hid hB; clear hB
      have HBw := Lib.hid hBw; clear hBw
      have hab := (hown.frame (Agree.drew _ _) (Nat.le_refl _)).above (fun b hb => Nat.le_trans hsz hb)
      go_wp2_with fail
      go_region_law (first
        | (refine step_call rfl 132 #[.tmp 19] #[52] rfl Try.func132 (by kernel_rfl) (by kernel_rfl) #[.slice A2 n2 c2] (by simp [Act.eval, Act.put]) (Clone_int (h2.all (by repeat' (first | (with_reducible exact Below.refl _ _) | (with_reducible refine Below.alloc ?_ ?_ _) | (with_reducible refine Below.drew ?_) | (with_reducible refine below_drewN ?_ _) | (with_reducible refine Below.setCell ?_ ?_ _) | (refine via ?_ (by with_reducible assumption) ?_) | (refine via ?_ (below_ext _ _) ?_) | go_size))) hn2) ?_; rintro e w5 ⟨A5, c5, rfl, hown5, hb5⟩; refine ⟨_, rfl, ?_⟩; have k51 := (hb5.cell (p := ⟨w1.heap.size, 1, none⟩) hsz).trans hk1; have z5 : w1.heap.size < w5.heap.size := (by have := hb5.size; first | omega | (simp at this; omega)))
        | ( refine step_append1 rfl (.tmp 18) (.tmp 21) 60 rfl i0 (.slice none 0 0) 24 Try.underlying60 hi hz0 hz1 hz2 rfl (by decide) (by simp [Act.eval]) (((hown.frame (Agree.drew _ _) (Nat.le_refl _)).all hb5).frame (Agree.alloc _ _ _) (by simp)) _ 52 1 _ (x.free.getD k []) (by simp [Act.eval]) (heap_alloc_new _ _) ⟨_, _, _, rfl, (((hown5.sl (tg := true)).mono (fun b hb _ => hab b (by simpa using hb))).frame (Agree.alloc _ _ _) (by simp))⟩ (by omega) (by omega) (by simp; omega) ?_
            intro A6 c6 w6 hown6 hg6 hat6
            have hbl6 : w6.heap[w1.heap.size]? = wr.heap[w1.heap.size]? := by
              rw [hg6.block _ (by simp; omega) (fun e => by have := (hown.lt _ e.symm).1; omega), Below.heap_alloc _ _ _ z5]
              exact hb5.block _ hsz
            have k60 := (World.cell?_of_block (a := ⟨w1.heap.size, 0, none⟩) hbl6).trans hk0
            have k61 := (World.cell?_of_block (a := ⟨w1.heap.size, 1, none⟩) hbl6).trans hk1
            have k6f := (World.frozen?_of_block (a := ⟨w1.heap.size, 1, none⟩) hbl6).trans hkf))
      all_goals
        go_wp2
        go_roundw
        case rel =>
          have hB := HB.out
          have hs6 := hg6.size
          simp only [World.size_alloc] at hs6
          refine ⟨k + 1, A6, c6, by omega, by go_num, ?_, World.cell?_setCell_same _ _ _ k61, ?_, ?_, ?_, ?_⟩
          · rw [World.cell?_setCell_other _ _ _ _ (by simp)]; exact k60
          · rw [World.frozen?_setCell]; exact k6f
          · rw [take_snoc_getD (d := []) (by have := HL1.out; omega)]
            exact hown6.frame (Agree.setCell (by
              rintro (h | h)
              · exact absurd h (by simp)
              · have := (hown6.lt _ h.symm).1; exact absurd this (by simp)) _) (by simp)
          · exact Below.setCell (((via hB.drew hb5 (Nat.le_refl _)).alloc (by omega) _).grown hg6 (by simp; omega) (fun r hr => by have := (hown.lt r hr).1; omega)) (by simp) _
          · rw [World.size_setCell]; omega
        case measure => simp [intOf]; omega
    · obtain ⟨hcB, hfB⟩ : (∀ b o, b < w1.heap.size → wr.cell? ⟨b, o, none⟩ = w1.cell? ⟨b, o, none⟩) ∧ (∀ b o, b < w1.heap.size → wr.frozen? ⟨b, o, none⟩ = w1.frozen? ⟨b, o, none⟩) := ⟨fun b o h => hB.cell (p := ⟨b, o, none⟩) h, fun b o h => hB.frozen (p := ⟨b, o, none⟩) h⟩
      have hz1 : w.heap.size + 1 < wr.heap.size := by omega
      go_wp2
      refine bodyPost_ret (v := .agg #[.slice A3 x.live.length c3, .slice A4 k c4]) (by simp [results, Try.results81, go_sem, *]; done) rfl ?_
      obtain rfl : k = n1 := by omega
      have e1 := HL1.out
      subst e1
      rw [List.take_length] at hown
      have hr4 := (hown.sl (tg := true)).mono (S' := fun b => w.heap.size + 2 ≤ b) (fun b hb _ => by simp at hb; omega)
      have hr3 := ((hown3.sl (tg := true)).lt_block).mono (S' := fun b => w.heap.size + 2 ≤ b ∧ b < w1.heap.size) (fun b hb _ => ⟨by have := hb.1; simp at this; omega, hb.2⟩)
      have hr3' := hr3.below hB (fun b hb _ => hb.2)
      exact ⟨_, rfl, ⟨_, _, _, _, _, _, rfl, trivial, (hr3'.keep (by repeat' (first | (with_reducible exact Keeps.refl _ _) | (with_reducible refine Keeps.alloc ?_ _) | (with_reducible refine Keeps.drew ?_) | (with_reducible refine Keeps.drewN ?_ _) | (with_reducible refine Keeps.setCell ?_ ?_ _) | (refine Keeps.call ?_ (by with_reducible assumption)) | (with_reducible refine Keeps.ext ?_ _) | (simp; done) | (simp; omega) | omega))).mono (fun b hb _ => by omega), (hr4.keep (by repeat' (first | (with_reducible exact Keeps.refl _ _) | (with_reducible refine Keeps.alloc ?_ _) | (with_reducible refine Keeps.drew ?_) | (with_reducible refine Keeps.drewN ?_ _) | (with_reducible refine Keeps.setCell ?_ ?_ _) | (refine Keeps.call ?_ (by with_reducible assumption)) | (with_reducible refine Keeps.ext ?_ _) | (simp; done) | (simp; omega) | omega))).mono (fun b hb _ => by omega)⟩, by
        refine Below.setCell (Below.setCell ?_ (by simp) _) (by simp) _
        exact (via (by exact ((Below.refl _ w).alloc (Nat.le_refl _) _).alloc (by simp) _) hb3 (Nat.le_refl _)).trans (hB.mono (by omega))⟩
end Go.Proofs.Ytjeecdoffoahkaa
