/- The insertion sort of the library, walked. -/
import Derived.Test.YtjeecdoffoahkaaS1
import Derived.Deep.LoopGhost
import Derived.RegionTactic
-- from S6
-- from S5
namespace Go.Proofs.Ytjeecdoffoahkaa
open Go.RowKit Go.Silo

theorem isNaN_c {w : World} {a : Int} : Calls Try.prog 194 #[.int .i64 a] w (RetV (.bool false) w) := by
  have h : (a != a) = false := by simp
  go_enter Try.func194, Try.ntmps194
  go_wp2
  go_ret
  exact ⟨by simp, Below.refl _ _⟩

/-- -1, 0, 1. -/
def cmp3 (a b : Int) : Int := if a < b then -1 else if b < a then 1 else 0
theorem Compare_c {w : World} {a b : Int} : Calls Try.prog 169 #[.int .i64 a, .int .i64 b] w (RetV (.int .i64 (cmp3 a b)) w) := by
  have hr : Hid (cmp3 a b = if a < b then -1 else if b < a then 1 else 0) := Lib.hid rfl
  generalize cmp3 a b = r at *
  rcases (by omega : a < b ∨ a = b ∨ b < a) with h | h | h
  · go_enter Try.func169, Try.ntmps169
    go_wp2_with (go_at_call 194; refine isNaN_c.mono ?_; rintro e w1 ⟨rfl, hb1⟩)
    go_ret
    exact ⟨by rw [hr.out, if_pos h]; rfl, (by repeat' (first | (with_reducible exact Below.refl _ _) | (with_reducible refine Below.alloc ?_ ?_ _) | (with_reducible refine Below.drew ?_) | (with_reducible refine below_drewN ?_ _) | (with_reducible refine Below.setCell ?_ ?_ _) | (refine via ?_ (by with_reducible assumption) ?_) | (refine via ?_ (below_ext _ _) ?_) | go_size))⟩
  · subst h
    go_enter Try.func169, Try.ntmps169
    go_wp2_with (go_at_call 194; refine isNaN_c.mono ?_; rintro e w1 ⟨rfl, hb1⟩)
    go_ret
    exact ⟨by rw [hr.out]; simp, (by repeat' (first | (with_reducible exact Below.refl _ _) | (with_reducible refine Below.alloc ?_ ?_ _) | (with_reducible refine Below.drew ?_) | (with_reducible refine below_drewN ?_ _) | (with_reducible refine Below.setCell ?_ ?_ _) | (refine via ?_ (by with_reducible assumption) ?_) | (refine via ?_ (below_ext _ _) ?_) | go_size))⟩
  · go_enter Try.func169, Try.ntmps169
    go_wp2_with (go_at_call 194; refine isNaN_c.mono ?_; rintro e w1 ⟨rfl, hb1⟩)
    go_ret
    exact ⟨by rw [hr.out, if_neg (by omega), if_pos h]; rfl, (by repeat' (first | (with_reducible exact Below.refl _ _) | (with_reducible refine Below.alloc ?_ ?_ _) | (with_reducible refine Below.drew ?_) | (with_reducible refine below_drewN ?_ _) | (with_reducible refine Below.setCell ?_ ?_ _) | (refine via ?_ (by with_reducible assumption) ?_) | (refine via ?_ (below_ext _ _) ?_) | go_size))⟩

set_option maxHeartbeats 400000 in
theorem Index_int {tg : Bool} {T : TypeId} {S : Nat → Prop} {w : World} {A : Option Addr} {n c : Nat} {xs : List Int} {x : Int} (h : Sl tg T intE w S A n c xs) :
    Calls Try.prog 192 #[.slice A n c, .int .i64 x] w (RetV (.int .i64 (inOf xs x)) w) := by
  have HL := Lib.hid h.len
  have hcap : n ≤ 9223372036854775807 := Nat.le_trans h.le h.cap
  go_enter Try.func192, Try.ntmps192
  go_wp2
  go_loopw [5, 8] (fun _ i wr => ∃ k : Nat, k ≤ n ∧ i = .int .i64 k ∧ Below w.heap.size w wr ∧ Hid (∀ j, j < k → xs.getD j 0 ≠ x)) (fun _ i _ => n - (intOf i).toNat)
  case atStart => exact ⟨0, Nat.zero_le _, rfl, Below.refl _ _, Lib.hid (fun j hj => by omega)⟩
  case round =>
    obtain ⟨k, hk, rfl, hB, he⟩ := hrel
    by_cases hlt : k < n
    · obtain ⟨b, off, rfl, hS, hbl, g1, hc0, _⟩ := (h.all hB).int_at hlt
      generalize hx : xs.getD k 0 = y at *
      have HX := Lib.hid hx; clear hx
      have HB := Lib.hid hB; clear hB
      by_cases hxy : x = y
      · have hb : (x == y) = true := by simpa using hxy
        have HF : Hid (inOf xs x = (k : Int)) := Lib.hid (idxOf_some (d := 0) (p := (· == x)) (by have := HL.out; omega) (by show (xs.getD k 0 == x) = true; rw [HX.out, hxy]; simp) (fun j hj => by simpa using he.out j hj))
        clear hxy
        go_wp2
        go_ret
        exact ⟨by rw [HF.out]; rfl, HB.out⟩
      · have hb : (x == y) = false := by simpa using hxy
        have HF : Hid (∀ j, j < k + 1 → xs.getD j 0 ≠ x) := Lib.hid (fun j hj => by
          by_cases hjk : j = k
          · subst hjk; rw [HX.out]; exact fun e => hxy e.symm
          · exact he.out j (by omega))
        clear hxy
        go_wp2
        go_roundw
        case rel => exact ⟨k + 1, by omega, by go_num, HB.out, HF⟩
        case measure => simp [intOf]; omega
    · have HF : Hid (inOf xs x = -1) := Lib.hid (idxOf_none (d := 0) (p := (· == x)) fun j hj => by simpa using he.out j (by have := HL.out; omega))
      go_wp2
      go_ret
      exact ⟨by rw [HF.out]; rfl, hB⟩

theorem inOf_mem (xs : List Int) (x : Int) : (0 ≤ inOf xs x) ↔ x ∈ xs := by
  have h := idxOf_any (xs := xs) (p := (· == x))
  have h2 : inOf xs x = idxOf (· == x) xs := rfl
  rw [h2]
  constructor
  · intro h0; rw [decide_eq_true h0] at h; rw [List.any_eq_true] at h; obtain ⟨y, hy, e⟩ := h; simp at e; subst e; exact hy
  · intro hm
    have : xs.any (· == x) = true := List.any_eq_true.2 ⟨x, hm, by simp⟩
    rw [this] at h
    exact of_decide_eq_true h.symm

set_option maxHeartbeats 400000 in
theorem Contains_int {tg : Bool} {T : TypeId} {S : Nat → Prop} {w : World} {A : Option Addr} {n c : Nat} {xs : List Int} {x : Int} (h : Sl tg T intE w S A n c xs) :
    Calls Try.prog 166 #[.slice A n c, .int .i64 x] w (RetV (.bool (decide (x ∈ xs))) w) := by
  have HQ := Lib.hid (inOf_mem xs x)
  go_enter Try.func166, Try.ntmps166
  go_wp2_with fail
  refine (Index_int h).mono ?_
  rintro e w2 ⟨rfl, hb2⟩
  generalize hi : inOf xs x = i at *
  by_cases h0 : 0 ≤ i
  · have HM := Lib.hid (HQ.out.1 h0)
    go_wp2
    go_ret
    exact ⟨by rw [decide_eq_true HM.out]; rfl, hb2⟩
  · have HM := Lib.hid (fun hm => h0 (HQ.out.2 hm))
    go_wp2
    go_ret
    exact ⟨by rw [decide_eq_false HM.out]; first | rfl | (simp; omega), hb2⟩

end Go.Proofs.Ytjeecdoffoahkaa
namespace Go.Proofs.Ytjeecdoffoahkaa
open Go.RowKit Go.Silo

/-- x finds its place among those that are ahead (in turned order). -/
def insR (key : Int → Int) (x : Int) : List Int → List Int
  | [] => [x]
  | y :: ys => if key y < key x then y :: insR key x ys else x :: y :: ys
def sortR (key : Int → Int) (l : List Int) : List Int := l.foldl (fun R x => insR key x R) []
def sortBy (key : Int → Int) (l : List Int) : List Int := (sortR key l).reverse
theorem insR_length (key : Int → Int) (x : Int) (l : List Int) : (insR key x l).length = l.length + 1 := by
  induction l with
  | nil => rfl
  | cons y ys ih => rw [insR]; split <;> simp [ih]
theorem sortR_snoc (key : Int → Int) (l : List Int) (x : Int) : sortR key (l ++ [x]) = insR key x (sortR key l) := by simp [sortR]
theorem sortR_length (key : Int → Int) (l : List Int) : (sortR key l).length = l.length := by
  have : ∀ (m : List Int) (R : List Int), (m.foldl (fun R x => insR key x R) R).length = R.length + m.length := by
    intro m
    induction m with
    | nil => simp
    | cons x m ih => intro R; rw [List.foldl_cons, ih, insR_length, List.length_cons]; omega
  simpa [sortR] using this l []
theorem insR_pass (key : Int → Int) (x : Int) (M L : List Int) (h : ∀ y ∈ M, key y < key x) : insR key x (M ++ L) = M ++ insR key x L := by
  induction M with
  | nil => rfl
  | cons y M ih => rw [List.cons_append, insR, if_pos (h y (by simp)), ih (fun z hz => h z (by simp [hz])), List.cons_append]
theorem insR_stop (key : Int → Int) (x : Int) (L : List Int) (h : ∀ y, L.head? = some y → ¬ key y < key x) : insR key x L = x :: L := by
  cases L with
  | nil => rfl
  | cons y L => rw [insR, if_neg (h y rfl)]
theorem mem_insR {key : Int → Int} {x y : Int} {l : List Int} : y ∈ insR key x l ↔ y = x ∨ y ∈ l := by
  induction l with
  | nil => simp [insR]
  | cons z zs ih =>
    rw [insR]
    split
    · simp only [List.mem_cons, ih]; constructor <;> (rintro (h | h | h) <;> simp [h])
    · simp
theorem mem_sortR {key : Int → Int} {y : Int} {l : List Int} : y ∈ sortR key l ↔ y ∈ l := by
  have : ∀ (m : List Int) (R : List Int), y ∈ m.foldl (fun R x => insR key x R) R ↔ y ∈ R ∨ y ∈ m := by
    intro m
    induction m with
    | nil => simp
    | cons x m ih =>
      intro R; rw [List.foldl_cons, ih, mem_insR, List.mem_cons]; constructor
      · rintro ((h | h) | h) <;> simp [h]
      · rintro (h | h | h) <;> simp [h]
  simpa [sortR] using this l []

/-- The row as the inner loop has it: 'L' (turned) is ahead still, x moves, 'M' (turned) has been passed. -/
def rowAt (L : List Int) (x : Int) (M rest : List Int) : List Int := L.reverse ++ x :: (M.reverse ++ rest)
theorem rowAt_x {L M rest : List Int} {x : Int} : (rowAt L x M rest).getD L.length 0 = x := by simp [rowAt, List.getD_eq_getElem?_getD]
theorem rowAt_y {L M rest : List Int} {x y : Int} : (rowAt (y :: L) x M rest).getD L.length 0 = y := by
  simp [rowAt, List.getD_eq_getElem?_getD]
theorem rowAt_swap {L M rest : List Int} {x y : Int} : ((rowAt (y :: L) x M rest).set (L.length + 1) y).set L.length x = rowAt L x (M ++ [y]) rest := by
  simp [rowAt]
end Go.Proofs.Ytjeecdoffoahkaa
namespace Go.Proofs.Ytjeecdoffoahkaa
open Go.RowKit Go.Silo

/-- Only the row A (and what is new) has turned. -/
theorem grown_ext {w wr : World} {row : Option Nat} (h : w.grownBy wr row) (X : World) : w.grownBy (wr.ext X) row :=
  h.trans ⟨(below_ext wr X).os, (below_ext wr X).tape, (below_ext wr X).output, (below_ext wr X).size, fun k hk _ => (below_ext wr X).block k hk⟩
theorem grown_drewN {w wr : World} {row : Option Nat} (h : w.grownBy wr row) (n : Nat) : w.grownBy (wr.drewN n) row := ⟨h.os, h.tape, h.output, h.size, h.block⟩
theorem grown_drew {w wr : World} {row : Option Nat} (h : w.grownBy wr row) : w.grownBy wr.drew row := ⟨h.os, h.tape, h.output, h.size, h.block⟩
theorem cmp3_neg {a b : Int} : cmp3 a b < 0 ↔ a < b := by
  unfold cmp3
  split
  · simp [*]
  · split <;> simp [*]

set_option maxRecDepth 100000 in
set_option maxHeartbeats 4000000 in
theorem insertionSort_c {w : World} {base : Nat} {S : Nat → Prop} {A : Option Addr} {n c : Nat} {xs : List Int} {capt : Option Addr} (h : Own 3 intE w base S A n c xs) (hn : n ≤ 1000) (key : Int → Int)
    (hcmp : ∀ (W : World) (a b : Int), w.grownBy W (ablk A) → a ∈ xs → b ∈ xs → Calls Try.prog 168 #[.int .i64 a, .int .i64 b, .pointer capt] W (RetV (.int .i64 (cmp3 (key b) (key a))) W)) :
    Calls Try.prog 204 #[.slice A n c, .int .i64 0, .int .i64 (n : Int), .func (.func 168) #[] #[.pointer capt]] w fun e w' => e = .returned (.tuple #[]) ∧ Own 3 intE w' base S A n c (sortBy key xs) ∧ w.grownBy w' (ablk A) := by
  have HL := Lib.hid h.len
  have HC := Lib.hid hcmp; clear hcmp
  go_enter Try.func204, Try.ntmps204
  go_wp2
  go_loopw [8, 9] (fun i _ wr => ∃ k : Nat, 1 ≤ k ∧ (k ≤ n ∨ k = 1) ∧ i = .int .i64 k ∧ Own 3 intE wr base S A n c ((sortR key (xs.take k)).reverse ++ xs.drop k) ∧ w.grownBy wr (ablk A)) (fun i _ _ => n - (intOf i).toNat)
  case atStart =>
    refine ⟨1, by omega, by omega, by go_num, ?_, World.grownBy.refl _ _⟩
    have : (sortR key (xs.take 1)).reverse ++ xs.drop 1 = xs := by
      cases xs with
      | nil => rfl
      | cons x xs => simp [sortR, insR]
    rw [this]; exact h
  case round =>
    obtain ⟨k, hk1, hkn, rfl, hown, hg⟩ := hrel
    by_cases hlt : k < n
    · obtain ⟨wo, rfl⟩ : ∃ wo : World, wo = wr := ⟨_, rfl⟩
      have HK := Lib.hid hkn; clear hkn
      obtain ⟨x, hx⟩ : ∃ x, xs[k]? = some x := ⟨_, List.getElem?_eq_getElem (by have := HL.out; omega)⟩
      have HX := Lib.hid hx; clear hx
      obtain ⟨rest, hrest⟩ : ∃ rest, xs.drop (k + 1) = rest := ⟨_, rfl⟩
      have HR := Lib.hid hrest; clear hrest
      go_wp2
      go_loopw [9] (fun j wr => ∃ L M : List Int, L.length ≤ k ∧ j = .int .i64 (L.length : Nat) ∧ Hid (sortR key (xs.take k) = M ++ L) ∧ Hid (∀ y ∈ M, key y < key x) ∧ Own 3 intE wr base S A n c (rowAt L x M rest) ∧ w.grownBy wr (ablk A)) (fun j _ => (intOf j).toNat)
      case atStart =>
        have hl : (sortR key (xs.take k)).length = k := by rw [sortR_length, List.length_take]; have := HL.out; omega
        refine ⟨sortR key (xs.take k), [], by omega, by rw [hl], Lib.hid rfl, Lib.hid (fun y hy => by simp at hy), ?_, hg⟩
        have : xs.drop k = x :: rest := by rw [← HR.out, List.drop_eq_getElem?_toList_append, HX.out]; rfl
        rw [this] at hown
        simpa [rowAt] using hown
      case round =>
        obtain ⟨L, M, hLk, rfl, hS, hM, hownI, hgI⟩ := hrel
        cases L with
        | nil =>
          have hfin : Hid ((sortR key (xs.take (k + 1))).reverse ++ xs.drop (k + 1) = rowAt [] x M rest) := Lib.hid (by
            have e1 : xs.take (k + 1) = xs.take k ++ [x] := by rw [List.take_add_one, HX.out]; rfl
            rw [e1, sortR_snoc, hS.out, insR_pass _ _ _ _ hM.out, insR_stop _ _ _ (by simp), HR.out]; simp [rowAt])
          simp only [List.length_nil] at *
          go_wp2
          go_quiet (fail)
          go_wp2
          go_roundw
          case rel => exact ⟨k + 1, by omega, by omega, by go_num, by rw [hfin.out]; exact hownI.frame (Agree.drewN _ _ _) (Nat.le_refl _), grown_drewN hgI _⟩
          case measure => simp [intOf]; omega
        | cons y L =>
          have hlen := hownI.len
          have hLn : L.length + 1 < n := by simp [rowAt] at hlen; omega
          obtain ⟨g, rfl, hbg, hgs, gy, hcy, hfy⟩ := hownI.int_at (k := L.length) (by omega)
          obtain ⟨g', e', _, _, gx, hcx, hfx⟩ := hownI.int_at (k := L.length + 1) (by omega)
          injection e' with e'; injection e' with e1 _ _; subst e1
          rw [rowAt_y] at hcy gy
          have hxe := rowAt_x (L := y :: L) (x := x) (M := M) (rest := rest)
          rw [List.length_cons] at hxe
          rw [hxe] at hcx gx
          clear hxe hlen
          have hmy : y ∈ xs := List.mem_of_mem_take (mem_sortR.1 (by rw [hS.out]; simp))
          have hmx : x ∈ xs := List.mem_of_getElem? HX.out
          have hc := fun X => HC.out (wr.ext X) x y (grown_ext hgI X) hmx hmy
          have HCC := Lib.hid hc; clear hc
          have hext := cell_ext wr
          by_cases hlt2 : key y < key x
          · have hneg := cmp3_neg.2 hlt2
            generalize cmp3 (key y) (key x) = r at *
            have HLT := Lib.hid hlt2; clear hlt2
            simp only [List.length_cons] at *
            go_wp2
            refine region_ext (by kernel_rfl) (by kernel_rfl) ?_
            repeat (go_big_quiet_step ((go_at_call 168; exact RetV.ext (HCC.out _))))
            refine wpQuiet_nil ?_
            rintro _ ⟨X, rfl⟩
            go_wp2
            have hownW := hownI.all (below_ext wr X)
            have hgW := grown_ext hgI X
            have hcyW := (hext X g L.length hgs).trans hcy
            have hcxW := (hext X g (L.length + 1) hgs).trans hcx
            have hfyW := ((below_ext wr X).frozen (p := ⟨g, L.length, none⟩) hgs).trans hfy
            have hfxW := ((below_ext wr X).frozen (p := ⟨g, L.length + 1, none⟩) hgs).trans hfx
            clear hcy hcx hfy hfx hext HCC hownI hgI
            generalize wr.ext X = W at *
            have hO1 : Own 3 intE ((W.setCell ⟨g, L.length + 1, none⟩ (.int .i64 y)).setCell ⟨g, L.length, none⟩ (.int .i64 x)) base S (some ⟨g, 0, none⟩) n c (rowAt L x (M ++ [y]) rest) := by
              rw [← rowAt_swap]; exact (hownW.set1 rfl (by omega) (intE_R gy)).set1 rfl (by omega) (intE_R gx)
            have hO2 : Own 3 intE ((W.setCell ⟨g, L.length, none⟩ (.int .i64 x)).setCell ⟨g, L.length + 1, none⟩ (.int .i64 y)) base S (some ⟨g, 0, none⟩) n c (rowAt L x (M ++ [y]) rest) := by
              rw [← rowAt_swap, List.set_comm _ _ (by omega)]; exact (hownW.set1 rfl (by omega) (intE_R gx)).set1 rfl (by omega) (intE_R gy)
            have hG1 : w.grownBy ((W.setCell ⟨g, L.length + 1, none⟩ (.int .i64 y)).setCell ⟨g, L.length, none⟩ (.int .i64 x)) (ablk (some ⟨g, 0, none⟩)) := (hgW.trans Own.grownSet).trans Own.grownSet
            have hG2 : w.grownBy ((W.setCell ⟨g, L.length, none⟩ (.int .i64 x)).setCell ⟨g, L.length + 1, none⟩ (.int .i64 y)) (ablk (some ⟨g, 0, none⟩)) := (hgW.trans Own.grownSet).trans Own.grownSet
            have HO1 := Lib.hid hO1; have HO2 := Lib.hid hO2; have HG1 := Lib.hid hG1; have HG2 := Lib.hid hG2
            clear hO1 hO2 hG1 hG2
            go_region
            all_goals
              go_wp2
              go_roundw
              case rel =>
                refine ⟨L, M ++ [y], by omega, by go_num, Lib.hid (by rw [hS.out]; simp), Lib.hid (fun z hz => by
                  rcases List.mem_append.1 hz with hz | hz
                  · exact hM.out z hz
                  · simp at hz; subst hz; exact HLT.out), ?_, ?_⟩
                · first | exact HO1.out | exact HO2.out
                · first | exact grown_drew HG1.out | exact grown_drew HG2.out | exact HG1.out | exact HG2.out
              case measure => (simp [intOf] <;> omega)
          · have hneg : ¬ cmp3 (key y) (key x) < 0 := fun hh => hlt2 (cmp3_neg.1 hh)
            have hfin : Hid ((sortR key (xs.take (k + 1))).reverse ++ xs.drop (k + 1) = rowAt (y :: L) x M rest) := Lib.hid (by
              have e1 : xs.take (k + 1) = xs.take k ++ [x] := by rw [List.take_add_one, HX.out]; rfl
              rw [e1, sortR_snoc, hS.out, insR_pass _ _ _ _ hM.out, insR_stop _ _ _ (by simpa using hlt2), HR.out]; simp [rowAt])
            generalize cmp3 (key y) (key x) = r at *
            clear hlt2
            simp only [List.length_cons] at *
            go_wp2
            refine region_ext (by kernel_rfl) (by kernel_rfl) ?_
            repeat (go_big_quiet_step ((go_at_call 168; exact RetV.ext (HCC.out _))))
            refine wpQuiet_nil ?_
            rintro _ ⟨X, rfl⟩
            go_wp2
            go_roundw
            case rel => exact ⟨k + 1, by omega, by omega, by go_num, by rw [hfin.out]; exact hownI.all (below_ext wr X), grown_ext hgI X⟩
            case measure => simp [intOf]; omega
    · have e := HL.out
      go_wp2
      go_end0
      refine ⟨rfl, ?_, hg⟩
      have : (sortR key (xs.take k)).reverse ++ xs.drop k = sortBy key xs := by
        rw [List.take_of_length_le (by omega), List.drop_of_length_le (by omega), List.append_nil]; rfl
      rw [this] at hown
      exact hown

set_option maxHeartbeats 1000000 in
theorem stable_c {w : World} {base : Nat} {S : Nat → Prop} {A : Option Addr} {n c : Nat} {xs : List Int} {capt : Option Addr} (h : Own 3 intE w base S A n c xs) (hn : n ≤ 19) (key : Int → Int)
    (hcmp : ∀ (W : World) (a b : Int), w.grownBy W (ablk A) → a ∈ xs → b ∈ xs → Calls Try.prog 168 #[.int .i64 a, .int .i64 b, .pointer capt] W (RetV (.int .i64 (cmp3 (key b) (key a))) W)) :
    Calls Try.prog 193 #[.slice A n c, .int .i64 (n : Int), .func (.func 168) #[] #[.pointer capt]] w fun e w' => e = .returned (.tuple #[]) ∧ Own 3 intE w' base S A n c (sortBy key xs) ∧ w.grownBy w' (ablk A) := by
  have HC := Lib.hid hcmp; clear hcmp
  go_enter Try.func193, Try.ntmps193
  go_wp2
  refine wp_loop_once ?_
  go_wp2_with fail
  refine (insertionSort_c h (by omega) key HC.out).mono ?_
  rintro e w2 ⟨rfl, hown2, hg2⟩
  go_wp2
  refine wp_loop_once ?_
  go_wp2
  go_end0
  exact ⟨rfl, hown2, hg2⟩

set_option maxHeartbeats 1000000 in
theorem SortStable_c {w : World} {base : Nat} {S : Nat → Prop} {A : Option Addr} {n c : Nat} {xs : List Int} {capt : Option Addr} (h : Own 3 intE w base S A n c xs) (hn : n ≤ 19) (key : Int → Int)
    (hcmp : ∀ (W : World) (a b : Int), w.grownBy W (ablk A) → a ∈ xs → b ∈ xs → Calls Try.prog 168 #[.int .i64 a, .int .i64 b, .pointer capt] W (RetV (.int .i64 (cmp3 (key b) (key a))) W)) :
    Calls Try.prog 167 #[.slice A n c, .func (.func 168) #[] #[.pointer capt]] w fun e w' => e = .returned (.tuple #[]) ∧ Own 3 intE w' base S A n c (sortBy key xs) ∧ w.grownBy w' (ablk A) := by
  have HC := Lib.hid hcmp; clear hcmp
  go_enter Try.func167, Try.ntmps167
  go_wp2_with fail
  refine (stable_c h hn key HC.out).mono ?_
  rintro e w2 ⟨rfl, hown2, hg2⟩
  go_wp2
  go_end0
  exact ⟨rfl, hown2, hg2⟩
end Go.Proofs.Ytjeecdoffoahkaa
