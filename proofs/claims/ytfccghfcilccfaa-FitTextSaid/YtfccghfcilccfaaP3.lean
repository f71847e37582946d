/- The page's giving back: the place in the row is found one by one: in plain. -/
import Derived.Test.YtfccghfcilccfaaP1
-- from P2
namespace Go.Proofs.Ytfccghfcilccfaa
open Go.RowKit Go.Silo

/-- a comes ahead of b: it has more room, or as much and the lower number. -/
def Ahead (key : Int → Int) (a b : Int) : Prop := key b < key a ∨ (key a = key b ∧ a < b)
theorem Ahead.not_both {key : Int → Int} {a b : Int} (h : Ahead key a b) (k : Ahead key b a) : False := by
  unfold Ahead at h k; omega
theorem insR_sorted {key : Int → Int} {x : Int} : ∀ {R : List Int}, R.Pairwise (fun a b => Ahead key b a) → (∀ y ∈ R, y < x) → (insR key x R).Pairwise (fun a b => Ahead key b a)
  | [], _, _ => by simp [insR]
  | y :: ys, hR, hx => by
    rw [List.pairwise_cons] at hR
    rw [insR]
    split
    · rename_i h
      rw [List.pairwise_cons]
      refine ⟨fun b hb => ?_, insR_sorted hR.2 (fun z hz => hx z (by simp [hz]))⟩
      rcases mem_insR.1 hb with rfl | hb
      · exact .inl h
      · exact hR.1 b hb
    · rename_i h
      rw [List.pairwise_cons]
      refine ⟨fun b hb => ?_, by rw [List.pairwise_cons]; exact hR⟩
      have hbx := hx b hb
      rcases List.mem_cons.1 hb with rfl | hb
      · unfold Ahead; omega
      · have := hR.1 b hb
        unfold Ahead at this ⊢
        omega
theorem sortBy_sorted {key : Int → Int} {l : List Int} (hl : l.Pairwise (· < ·)) : (sortBy key l).Pairwise (Ahead key) := by
  have : ∀ (m R : List Int), R.Pairwise (fun a b => Ahead key b a) → (∀ y ∈ R, ∀ x ∈ m, y < x) → m.Pairwise (· < ·) → (m.foldl (fun R x => insR key x R) R).Pairwise (fun a b => Ahead key b a) := by
    intro m
    induction m with
    | nil => intro R h _ _; exact h
    | cons x m ih =>
      intro R hR hRm hm
      rw [List.pairwise_cons] at hm
      rw [List.foldl_cons]
      refine ih _ (insR_sorted hR (fun y hy => hRm y hy x (by simp))) (fun y hy z hz => ?_) hm.2
      rcases mem_insR.1 hy with rfl | hy
      · exact hm.1 z hz
      · exact hRm y hy z (by simp [hz])
  unfold sortBy
  rw [List.pairwise_reverse]
  exact this l [] .nil (fun y hy => by simp at hy) hl
theorem upto_lt (k : Nat) : (upto k).Pairwise (· < ·) := by
  unfold upto
  exact List.Pairwise.map _ (fun a b h => by omega) List.pairwise_lt_range
theorem withRoom_lt (x : SlotsD) (not : List Int) : (withRoom x (cands x not)).Pairwise (· < ·) := by
  unfold withRoom cands candTo
  exact ((upto_lt _).filter _).filter _
theorem mem_withRoom {x : SlotsD} {not : List Int} {i : Nat} : (i : Int) ∈ withRoom x (cands x not) ↔ i < x.live.length ∧ x.live.getD i false = true ∧ (i : Int) ∉ not ∧ 0 < room x i := by
  unfold withRoom cands candTo upto
  simp only [List.mem_filter, List.mem_map, List.mem_range, Bool.and_eq_true, decide_eq_true_eq, Bool.not_eq_true', decide_eq_false_iff_not, Int.toNat_natCast]
  constructor
  · rintro ⟨⟨⟨a, h1, h2⟩, h3, h4⟩, h5⟩
    exact ⟨by omega, h3, h4, h5⟩
  · rintro ⟨h1, h2, h3, h4⟩
    exact ⟨⟨⟨i, h1, rfl⟩, h2, h3⟩, h4⟩

/-- Disk i may be taken of. -/
def Rem (x : SlotsD) (used : List Int) (i : Nat) : Prop := x.live.getD i false = true ∧ (i : Int) ∉ used ∧ 0 < room x i
instance (x : SlotsD) (used : List Int) (i : Nat) : Decidable (Rem x used i) := by unfold Rem; infer_instance
/-- The best of the first k disks, as the page finds it. -/
def bestOf (x : SlotsD) (used : List Int) : Nat → Int
  | 0 => -1
  | k + 1 => if Rem x used k ∧ (bestOf x used k < 0 ∨ room x (bestOf x used k) < room x k) then (k : Int) else bestOf x used k
theorem bestOf_spec (x : SlotsD) (used : List Int) : ∀ k, (bestOf x used k = -1 ∧ ∀ i, i < k → ¬ Rem x used i) ∨
    ∃ b : Nat, bestOf x used k = (b : Int) ∧ b < k ∧ Rem x used b ∧ ∀ i, i < k → Rem x used i → i ≠ b → Ahead (room x) (b : Int) (i : Int) := by
  intro k
  induction k with
  | zero => exact .inl ⟨rfl, fun i hi => absurd hi (Nat.not_lt_zero _)⟩
  | succ k ih =>
    rw [bestOf]
    rcases ih with ⟨h1, h2⟩ | ⟨b, h1, h2, h3, h4⟩
    · rw [h1]
      by_cases hr : Rem x used k
      · rw [if_pos ⟨hr, .inl (by omega)⟩]
        refine .inr ⟨k, rfl, by omega, hr, fun i hi hri hne => absurd hri (h2 i (by omega))⟩
      · rw [if_neg (fun h => hr h.1)]
        refine .inl ⟨rfl, fun i hi => ?_⟩
        rcases Nat.lt_succ_iff_lt_or_eq.1 hi with h | rfl
        · exact h2 i h
        · exact hr
    · rw [h1]
      by_cases hr : Rem x used k ∧ room x (b : Int) < room x (k : Int)
      · rw [if_pos ⟨hr.1, .inr hr.2⟩]
        refine .inr ⟨k, rfl, by omega, hr.1, fun i hi hri hne => ?_⟩
        by_cases hib : i = b
        · subst hib; exact .inl hr.2
        · have := h4 i (by omega) hri hib
          have h5 := hr.2
          unfold Ahead at this ⊢
          omega
      · rw [if_neg (fun h => hr ⟨h.1, h.2.resolve_left (by omega)⟩)]
        refine .inr ⟨b, rfl, by omega, h3, fun i hi hri hne => ?_⟩
        rcases Nat.lt_succ_iff_lt_or_eq.1 hi with h | rfl
        · exact h4 i h hri hne
        · have h5 : ¬ room x (b : Int) < room x (i : Int) := fun h => hr ⟨hri, h⟩
          unfold Ahead
          omega

/-- The slots behind the taking of the first j. -/
def tookX (x : SlotsD) (n : Nat) (not : List Int) (j : Nat) : SlotsD := ⟨x.live, ((chosen x n not).take j).foldl tailAt x.free⟩
theorem tookX_all {x : SlotsD} {n : Nat} {not : List Int} (h : takeErr x n not = 0) : tookX x n not n = takeX x n not := by
  unfold tookX takeX
  rw [List.take_of_length_le (by rw [chosen_len h]; exact Nat.le_refl _)]
theorem tookX_room {x : SlotsD} {n : Nat} {not : List Int} {j i : Nat} (h : (i : Int) ∉ (chosen x n not).take j) : room (tookX x n not j) i = room x i := by
  unfold room tookX
  rw [tails_other _ _ _ (by omega) (fun e he => (chosen_mem (List.mem_of_mem_take he)).1) h]
theorem best_chosen {x : SlotsD} {n : Nat} {not : List Int} {j : Nat} (h : takeErr x n not = 0) (hj : j < n) :
    bestOf (tookX x n not j) (not ++ (chosen x n not).take j) x.live.length = (chosen x n not).getD j 0 := by
  have hlen := chosen_len h
  have hSlen : n ≤ (sortBy (room x) (withRoom x (cands x not))).length := by
    have : (chosen x n not).length ≤ _ := List.length_take_le' n (sortBy (room x) (withRoom x (cands x not)))
    unfold chosen at hlen
    rw [List.length_take] at hlen
    omega
  have hnd : (sortBy (room x) (withRoom x (cands x not))).Nodup := (sortBy_perm _ _).nodup_iff.2 ((withRoom_lt x not).imp (fun h => by omega))
  have hso := sortBy_sorted (key := room x) (withRoom_lt x not)
  have hm : ∀ i : Nat, (i : Int) ∈ sortBy (room x) (withRoom x (cands x not)) ↔ i < x.live.length ∧ x.live.getD i false = true ∧ (i : Int) ∉ not ∧ 0 < room x i := fun i => (sortBy_perm _ _).mem_iff.trans mem_withRoom
  have htk : (chosen x n not).take j = (sortBy (room x) (withRoom x (cands x not))).take j := by
    unfold chosen; rw [List.take_take]; congr 1; omega
  have hgd : (chosen x n not).getD j 0 = (sortBy (room x) (withRoom x (cands x not))).getD j 0 := by
    unfold chosen
    rw [List.getD_eq_getElem?_getD, List.getD_eq_getElem?_getD, List.getElem?_take_of_lt hj]
  have hjm : (chosen x n not).getD j 0 ∈ chosen x n not := by
    rw [List.getD_eq_getElem?_getD, List.getElem?_eq_getElem (by omega)]; exact List.getElem_mem _
  obtain ⟨c0, c1, c2⟩ := chosen_mem hjm
  obtain ⟨d, hd⟩ := Int.eq_ofNat_of_zero_le c0
  have hroom : ∀ i : Nat, (i : Int) ∉ (chosen x n not).take j → room (tookX x n not j) i = room x i := fun i hi => tookX_room hi
  rw [hd] at c1 c2 ⊢
  rw [hgd] at hd
  rw [htk] at hroom ⊢
  generalize sortBy (room x) (withRoom x (cands x not)) = S at *
  have hSj : S[j]? = some (d : Int) := by rw [← hd]; rw [List.getD_eq_getElem?_getD, List.getElem?_eq_getElem (by omega)]; rfl
  obtain ⟨hjl, hSe⟩ := List.getElem?_eq_some_iff.1 hSj
  have hdS : (d : Int) ∈ S := List.mem_of_getElem? hSj
  have hsplit : S = S.take j ++ (d : Int) :: S.drop (j + 1) := by
    conv => lhs; rw [← List.take_append_drop j S]
    rw [List.drop_eq_getElem_cons hjl, hSe]
  have hdn : (d : Int) ∉ S.take j := by
    intro hmem
    rw [hsplit, List.nodup_append] at hnd
    exact hnd.2.2 _ hmem _ (by simp) rfl
  have hrd := (hm d).1 hdS
  have hremd : Rem (tookX x n not j) (not ++ S.take j) d := ⟨hrd.2.1, by rw [List.mem_append]; exact fun h => h.elim hrd.2.2.1 hdn, by rw [hroom d hdn]; exact hrd.2.2.2⟩
  rcases bestOf_spec (tookX x n not j) (not ++ S.take j) x.live.length with ⟨_, h2⟩ | ⟨b, h1, h2, h3, h4⟩
  · exact absurd hremd (h2 d (by omega))
  · rw [h1]
    by_cases hbd : d = b
    · rw [hbd]
    · exfalso
      have h5 := h4 d (by omega) hremd hbd
      have hbn : (b : Int) ∉ S.take j := fun hh => h3.2.1 (List.mem_append.2 (.inr hh))
      have hbS : (b : Int) ∈ S := (hm b).2 ⟨h2, h3.1, fun hh => h3.2.1 (List.mem_append.2 (.inl hh)), by rw [← hroom b hbn]; exact h3.2.2⟩
      have hbdrop : (b : Int) ∈ S.drop (j + 1) := by
        rw [hsplit, List.mem_append, List.mem_cons] at hbS
        rcases hbS with h | h | h
        · exact absurd h hbn
        · omega
        · exact h
      have h6 : Ahead (room x) (d : Int) (b : Int) := by
        rw [hsplit, List.pairwise_append] at hso
        exact (List.pairwise_cons.1 hso.2.1).1 _ hbdrop
      unfold Ahead at h5
      rw [hroom b hbn, hroom d hdn] at h5
      exact Ahead.not_both (key := room x) h5 h6
end Go.Proofs.Ytfccghfcilccfaa
namespace Go.Proofs.Ytfccghfcilccfaa
open Go.RowKit Go.Silo

theorem countP_lt_at {l : List Int} {a : Int} {k : Nat} (hs : l.Pairwise (· < ·)) (hk : k ≤ l.length) (h1 : ∀ j, j < k → l.getD j 0 < a) (h2 : k < l.length → a ≤ l.getD k 0) : l.countP (· < a) = k := by
  induction l generalizing k with
  | nil => simp at hk; simp [hk]
  | cons y ys ih =>
    rw [List.pairwise_cons] at hs
    cases k with
    | zero =>
      have h0 : a ≤ y := by simpa using h2 (by simp)
      rw [List.countP_eq_zero]
      intro z hz
      rcases List.mem_cons.1 hz with rfl | hz
      · simp; omega
      · have := hs.1 z hz; simp; omega
    | succ k =>
      have hy : y < a := by simpa using h1 0 (by omega)
      rw [List.countP_cons, ih hs.2 (by simpa using hk) (fun j hj => by simpa using h1 (j + 1) (by omega)) (fun hk' => by simpa using h2 (by simpa using hk'))]
      simp [hy]
end Go.Proofs.Ytfccghfcilccfaa
