/- The insertion sort of the library, walked. -/
import Derived.Test.YtfccghfcilccfaaS6
namespace Go.Proofs.Ytfccghfcilccfaa
open Go.RowKit Go.Silo

/-- Only the row A (and what is new) has turned. -/
theorem grown_ext {w wr : World} {row : Option Nat} (h : w.grownBy wr row) (X : World) : w.grownBy (wr.ext X) row :=
  h.trans ⟨(below_ext wr X).os, (below_ext wr X).tape, (below_ext wr X).output, (below_ext wr X).size, fun k hk _ => (below_ext wr X).block k hk⟩
theorem grown_drewN {w wr : World} {row : Option Nat} (h : w.grownBy wr row) (n : Nat) : w.grownBy (wr.drewN n) row := ⟨h.os, h.tape, h.output, h.size, h.block⟩
theorem grown_drew {w wr : World} {row : Option Nat} (h : w.grownBy wr row) : w.grownBy wr.drew row := ⟨h.os, h.tape, h.output, h.size, h.block⟩
theorem cmp3_neg {a b : Int} : cmp3 a b < 0 ↔ a < b := by
  unfold cmp3
  split
  · simp [*]
  · split <;> simp [*]

set_option maxRecDepth 100000 in
set_option maxHeartbeats 4000000 in
theorem insertionSort_c {w : World} {base : Nat} {S : Nat → Prop} {A : Option Addr} {n c : Nat} {xs : List Int} {capt : Option Addr} (h : Own 3 intE w base S A n c xs) (hn : n ≤ 1000) (key : Int → Int)
    (hcmp : ∀ (W : World) (a b : Int), w.grownBy W (ablk A) → a ∈ xs → b ∈ xs → Calls Try.prog 158 #[.int .i64 a, .int .i64 b, .pointer capt] W (RetV (.int .i64 (cmp3 (key b) (key a))) W)) :
    Calls Try.prog 210 #[.slice A n c, .int .i64 0, .int .i64 (n : Int), .func (.func 158) #[] #[.pointer capt]] w fun e w' => e = .returned (.tuple #[]) ∧ Own 3 intE w' base S A n c (sortBy key xs) ∧ w.grownBy w' (ablk A) := by
  have HL := Lib.hid h.len
  have HC := Lib.hid hcmp; clear hcmp
  go_enter Try.func210, Try.ntmps210
  go_wp2
  go_loopw [8, 9] (fun i _ wr => ∃ k : Nat, 1 ≤ k ∧ (k ≤ n ∨ k = 1) ∧ i = .int .i64 k ∧ Own 3 intE wr base S A n c ((sortR key (xs.take k)).reverse ++ xs.drop k) ∧ w.grownBy wr (ablk A)) (fun i _ _ => n - (intOf i).toNat)
  case atStart =>
    refine ⟨1, by omega, by omega, by go_num, ?_, World.grownBy.refl _ _⟩
    have : (sortR key (xs.take 1)).reverse ++ xs.drop 1 = xs := by
      cases xs with
      | nil => rfl
      | cons x xs => simp [sortR, insR]
    rw [this]; exact h
  case round =>
    obtain ⟨k, hk1, hkn, rfl, hown, hg⟩ := hrel
    by_cases hlt : k < n
    · obtain ⟨wo, rfl⟩ : ∃ wo : World, wo = wr := ⟨_, rfl⟩
      have HK := Lib.hid hkn; clear hkn
      obtain ⟨x, hx⟩ : ∃ x, xs[k]? = some x := ⟨_, List.getElem?_eq_getElem (by have := HL.out; omega)⟩
      have HX := Lib.hid hx; clear hx
      obtain ⟨rest, hrest⟩ : ∃ rest, xs.drop (k + 1) = rest := ⟨_, rfl⟩
      have HR := Lib.hid hrest; clear hrest
      go_wp2
      go_loopw [9] (fun j wr => ∃ L M : List Int, L.length ≤ k ∧ j = .int .i64 (L.length : Nat) ∧ Hid (sortR key (xs.take k) = M ++ L) ∧ Hid (∀ y ∈ M, key y < key x) ∧ Own 3 intE wr base S A n c (rowAt L x M rest) ∧ w.grownBy wr (ablk A)) (fun j _ => (intOf j).toNat)
      case atStart =>
        have hl : (sortR key (xs.take k)).length = k := by rw [sortR_length, List.length_take]; have := HL.out; omega
        refine ⟨sortR key (xs.take k), [], by omega, by rw [hl], Lib.hid rfl, Lib.hid (fun y hy => by simp at hy), ?_, hg⟩
        have : xs.drop k = x :: rest := by rw [← HR.out, List.drop_eq_getElem?_toList_append, HX.out]; rfl
        rw [this] at hown
        simpa [rowAt] using hown
      case round =>
        obtain ⟨L, M, hLk, rfl, hS, hM, hownI, hgI⟩ := hrel
        cases L with
        | nil =>
          have hfin : Hid ((sortR key (xs.take (k + 1))).reverse ++ xs.drop (k + 1) = rowAt [] x M rest) := Lib.hid (by
            have e1 : xs.take (k + 1) = xs.take k ++ [x] := by rw [List.take_add_one, HX.out]; rfl
            rw [e1, sortR_snoc, hS.out, insR_pass _ _ _ _ hM.out, insR_stop _ _ _ (by simp), HR.out]; simp [rowAt])
          simp only [List.length_nil] at *
          go_wp2
          go_quiet (fail)
          go_wp2
          go_roundw
          case rel => exact ⟨k + 1, by omega, by omega, by go_num, by rw [hfin.out]; exact hownI.frame (Agree.drewN _ _ _) (Nat.le_refl _), grown_drewN hgI _⟩
          case measure => simp [intOf]; omega
        | cons y L =>
          have hlen := hownI.len
          have hLn : L.length + 1 < n := by simp [rowAt] at hlen; omega
          obtain ⟨g, rfl, hbg, hgs, gy, hcy, hfy⟩ := hownI.int_at (k := L.length) (by omega)
          obtain ⟨g', e', _, _, gx, hcx, hfx⟩ := hownI.int_at (k := L.length + 1) (by omega)
          injection e' with e'; injection e' with e1 _ _; subst e1
          rw [rowAt_y] at hcy gy
          have hxe := rowAt_x (L := y :: L) (x := x) (M := M) (rest := rest)
          rw [List.length_cons] at hxe
          rw [hxe] at hcx gx
          clear hxe hlen
          have hmy : y ∈ xs := List.mem_of_mem_take (mem_sortR.1 (by rw [hS.out]; simp))
          have hmx : x ∈ xs := List.mem_of_getElem? HX.out
          have hc := fun X => HC.out (wr.ext X) x y (grown_ext hgI X) hmx hmy
          have HCC := Lib.hid hc; clear hc
          have hext := cell_ext wr
          by_cases hlt2 : key y < key x
          · have hneg := cmp3_neg.2 hlt2
            generalize cmp3 (key y) (key x) = r at *
            have HLT := Lib.hid hlt2; clear hlt2
            simp only [List.length_cons] at *
            go_wp2
            refine region_ext (by kernel_rfl) (by kernel_rfl) ?_
            repeat (go_big_quiet_step ((go_at_call 158; exact RetV.ext (HCC.out _))))
            refine wpQuiet_nil ?_
            rintro _ ⟨X, rfl⟩
            go_wp2
            have hownW := hownI.all (below_ext wr X)
            have hgW := grown_ext hgI X
            have hcyW := (hext X g L.length hgs).trans hcy
            have hcxW := (hext X g (L.length + 1) hgs).trans hcx
            have hfyW := ((below_ext wr X).frozen (p := ⟨g, L.length, none⟩) hgs).trans hfy
            have hfxW := ((below_ext wr X).frozen (p := ⟨g, L.length + 1, none⟩) hgs).trans hfx
            clear hcy hcx hfy hfx hext HCC hownI hgI
            generalize wr.ext X = W at *
            have hO1 : Own 3 intE ((W.setCell ⟨g, L.length + 1, none⟩ (.int .i64 y)).setCell ⟨g, L.length, none⟩ (.int .i64 x)) base S (some ⟨g, 0, none⟩) n c (rowAt L x (M ++ [y]) rest) := by
              rw [← rowAt_swap]; exact (hownW.set1 rfl (by omega) (intE_R gy)).set1 rfl (by omega) (intE_R gx)
            have hO2 : Own 3 intE ((W.setCell ⟨g, L.length, none⟩ (.int .i64 x)).setCell ⟨g, L.length + 1, none⟩ (.int .i64 y)) base S (some ⟨g, 0, none⟩) n c (rowAt L x (M ++ [y]) rest) := by
              rw [← rowAt_swap, List.set_comm _ _ (by omega)]; exact (hownW.set1 rfl (by omega) (intE_R gx)).set1 rfl (by omega) (intE_R gy)
            have hG1 : w.grownBy ((W.setCell ⟨g, L.length + 1, none⟩ (.int .i64 y)).setCell ⟨g, L.length, none⟩ (.int .i64 x)) (ablk (some ⟨g, 0, none⟩)) := (hgW.trans Own.grownSet).trans Own.grownSet
            have hG2 : w.grownBy ((W.setCell ⟨g, L.length, none⟩ (.int .i64 x)).setCell ⟨g, L.length + 1, none⟩ (.int .i64 y)) (ablk (some ⟨g, 0, none⟩)) := (hgW.trans Own.grownSet).trans Own.grownSet
            have HO1 := Lib.hid hO1; have HO2 := Lib.hid hO2; have HG1 := Lib.hid hG1; have HG2 := Lib.hid hG2
            clear hO1 hO2 hG1 hG2
            go_region
            all_goals
              go_wp2
              go_roundw
              case rel =>
                refine ⟨L, M ++ [y], by omega, by go_num, Lib.hid (by rw [hS.out]; simp), Lib.hid (fun z hz => by
                  rcases List.mem_append.1 hz with hz | hz
                  · exact hM.out z hz
                  · simp at hz; subst hz; exact HLT.out), ?_, ?_⟩
                · first | exact HO1.out | exact HO2.out
                · first | exact grown_drew HG1.out | exact grown_drew HG2.out | exact HG1.out | exact HG2.out
              case measure => (simp [intOf] <;> omega)
          · have hneg : ¬ cmp3 (key y) (key x) < 0 := fun hh => hlt2 (cmp3_neg.1 hh)
            have hfin : Hid ((sortR key (xs.take (k + 1))).reverse ++ xs.drop (k + 1) = rowAt (y :: L) x M rest) := Lib.hid (by
              have e1 : xs.take (k + 1) = xs.take k ++ [x] := by rw [List.take_add_one, HX.out]; rfl
              rw [e1, sortR_snoc, hS.out, insR_pass _ _ _ _ hM.out, insR_stop _ _ _ (by simpa using hlt2), HR.out]; simp [rowAt])
            generalize cmp3 (key y) (key x) = r at *
            clear hlt2
            simp only [List.length_cons] at *
            go_wp2
            refine region_ext (by kernel_rfl) (by kernel_rfl) ?_
            repeat (go_big_quiet_step ((go_at_call 158; exact RetV.ext (HCC.out _))))
            refine wpQuiet_nil ?_
            rintro _ ⟨X, rfl⟩
            go_wp2
            go_roundw
            case rel => exact ⟨k + 1, by omega, by omega, by go_num, by rw [hfin.out]; exact hownI.all (below_ext wr X), grown_ext hgI X⟩
            case measure => simp [intOf]; omega
    · have e := HL.out
      go_wp2
      go_end0
      refine ⟨rfl, ?_, hg⟩
      have : (sortR key (xs.take k)).reverse ++ xs.drop k = sortBy key xs := by
        rw [List.take_of_length_le (by omega), List.drop_of_length_le (by omega), List.append_nil]; rfl
      rw [this] at hown
      exact hown

set_option maxHeartbeats 1000000 in
theorem stable_c {w : World} {base : Nat} {S : Nat → Prop} {A : Option Addr} {n c : Nat} {xs : List Int} {capt : Option Addr} (h : Own 3 intE w base S A n c xs) (hn : n ≤ 19) (key : Int → Int)
    (hcmp : ∀ (W : World) (a b : Int), w.grownBy W (ablk A) → a ∈ xs → b ∈ xs → Calls Try.prog 158 #[.int .i64 a, .int .i64 b, .pointer capt] W (RetV (.int .i64 (cmp3 (key b) (key a))) W)) :
    Calls Try.prog 189 #[.slice A n c, .int .i64 (n : Int), .func (.func 158) #[] #[.pointer capt]] w fun e w' => e = .returned (.tuple #[]) ∧ Own 3 intE w' base S A n c (sortBy key xs) ∧ w.grownBy w' (ablk A) := by
  have HC := Lib.hid hcmp; clear hcmp
  go_enter Try.func189, Try.ntmps189
  go_wp2
  refine wp_loop_once ?_
  go_wp2_with fail
  refine (insertionSort_c h (by omega) key HC.out).mono ?_
  rintro e w2 ⟨rfl, hown2, hg2⟩
  go_wp2
  refine wp_loop_once ?_
  go_wp2
  go_end0
  exact ⟨rfl, hown2, hg2⟩

set_option maxHeartbeats 1000000 in
theorem SortStable_c {w : World} {base : Nat} {S : Nat → Prop} {A : Option Addr} {n c : Nat} {xs : List Int} {capt : Option Addr} (h : Own 3 intE w base S A n c xs) (hn : n ≤ 19) (key : Int → Int)
    (hcmp : ∀ (W : World) (a b : Int), w.grownBy W (ablk A) → a ∈ xs → b ∈ xs → Calls Try.prog 158 #[.int .i64 a, .int .i64 b, .pointer capt] W (RetV (.int .i64 (cmp3 (key b) (key a))) W)) :
    Calls Try.prog 157 #[.slice A n c, .func (.func 158) #[] #[.pointer capt]] w fun e w' => e = .returned (.tuple #[]) ∧ Own 3 intE w' base S A n c (sortBy key xs) ∧ w.grownBy w' (ablk A) := by
  have HC := Lib.hid hcmp; clear hcmp
  go_enter Try.func157, Try.ntmps157
  go_wp2_with fail
  refine (stable_c h hn key HC.out).mono ?_
  rintro e w2 ⟨rfl, hown2, hg2⟩
  go_wp2
  go_end0
  exact ⟨rfl, hown2, hg2⟩
end Go.Proofs.Ytfccghfcilccfaa
