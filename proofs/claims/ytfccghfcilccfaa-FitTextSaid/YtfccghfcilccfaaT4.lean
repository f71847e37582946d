/- slots.Own once more: the rows lie in blocks of their own, each apart from the others. -/
import Derived.Test.YtfccghfcilccfaaT2
namespace Go.Proofs.Ytfccghfcilccfaa
open Go.RowKit Go.Silo

/-- A row that is one's own: a list, and the bounds between which its block lies. -/
def rowE : Enc (List Int × Nat × Nat) where
  sz := 1
  R w S vs x := ∃ A c, vs = [.slice A x.1.length c] ∧ Own 3 intE w x.2.1 (fun b => x.2.1 ≤ b ∧ b < x.2.2) A x.1.length c x.1 ∧ (∀ r, ablk A = some r → x.2.1 ≤ r ∧ r < x.2.2) ∧ x.2.2 ≤ w.heap.size ∧ (∀ b, x.2.1 ≤ b → b < x.2.2 → S b)
  len h := by obtain ⟨A, c, rfl, _⟩ := h; rfl
  one h := by obtain ⟨A, c, rfl, _⟩ := h; simp [Value.oneCell']
  mono hS h := by
    obtain ⟨A, c, rfl, ho, hr, hs, hb⟩ := h
    exact ⟨A, c, rfl, ho, hr, hs, fun b h1 h2 => hS b (hb b h1 h2) (by omega)⟩
  frame hA hs h := by
    obtain ⟨A, c, rfl, ho, hr, hz, hb⟩ := h
    refine ⟨A, c, rfl, ho.frame (fun b hb2 hlt => hA b ?_ hlt) hs, hr, Nat.le_trans hz hs, hb⟩
    rcases hb2 with h | h
    · exact hb b h.1 h.2
    · have := hr b h.symm; exact hb b this.1 this.2
theorem rowE_sz : rowE.sz = 1 := rfl

/-- The rows are those of the lists, each in blocks above the ones ahead. -/
structure RowsOf (top : Nat) (ys : List (List Int × Nat × Nat)) (xs : List (List Int)) : Prop where
  lists : ys.map (·.1) = xs
  apart : ys.Pairwise (fun a b => a.2.2 ≤ b.2.1)
  top : ∀ y ∈ ys, y.2.2 ≤ top
theorem RowsOf.nil {t : Nat} : RowsOf t [] [] := ⟨rfl, .nil, by simp⟩
theorem RowsOf.grow {t t' : Nat} {ys xs} (h : RowsOf t ys xs) (ht : t ≤ t') : RowsOf t' ys xs := ⟨h.1, h.2, fun y hy => Nat.le_trans (h.3 y hy) ht⟩
theorem RowsOf.snoc {t t' lo hi : Nat} {ys xs} {l : List Int} (h : RowsOf t ys xs) (hlo : t ≤ lo) (hlh : lo ≤ hi) (hhi : hi ≤ t') : RowsOf t' (ys ++ [(l, lo, hi)]) (xs ++ [l]) := by
  refine ⟨by rw [List.map_append, h.1]; rfl, List.pairwise_append.2 ⟨h.2, List.pairwise_singleton _ _, ?_⟩, ?_⟩
  · intro a ha b hb
    rw [List.mem_singleton] at hb; subst hb
    exact Nat.le_trans (h.3 a ha) hlo
  · intro y hy
    rcases List.mem_append.1 hy with hy | hy
    · exact Nat.le_trans (h.3 y hy) (by omega)
    · rw [List.mem_singleton] at hy; subst hy; exact hhi

theorem rowE_new {W w5 : World} {o : Obj} {A5 : Option Addr} {c5 : Nat} {l : List Int} {S : Nat → Prop} {lo : Nat} (h : Own 3 intE w5 W.heap.size (fun b => W.heap.size ≤ b) A5 l.length c5 l) (hlo : lo = W.heap.size) (hS : ∀ b, lo ≤ b → S b) :
    rowE.R (w5.alloc o) S [.slice A5 l.length c5] (l, lo, w5.heap.size) := by
  subst hlo
  have hf : Own 3 intE w5 W.heap.size (fun b => W.heap.size ≤ b ∧ b < w5.heap.size) A5 l.length c5 l := h.mono fun b hb hlt => ⟨hb, hlt⟩
  exact ⟨A5, c5, rfl, hf.frame (Agree.alloc _ _ _) (by simp), fun r hr => h.lt r hr, by simp, fun b h1 _ => hS b h1⟩

/-- What Own leaves. -/
def OwnPost (w : World) (x : SlotsD) (e : Ending) (w' : World) : Prop :=
  ∃ A0 n0 c0 A1 n1 c1 ys, e = .returned (.agg #[.slice A0 n0 c0, .slice A1 n1 c1]) ∧ Sl true 4 boolE w' (fun b => w.heap.size ≤ b) A0 n0 c0 x.live ∧ Sl true 52 rowE w' (fun b => w.heap.size ≤ b) A1 n1 c1 ys ∧ RowsOf w'.heap.size ys x.free ∧ Below w.heap.size w w'

set_option maxRecDepth 100000 in
set_option maxHeartbeats 2000000 in
theorem OwnX_c {tg : Bool} {S : Nat → Prop} {w : World} {A0 A1 : Option Addr} {n0 c0 n1 c1 : Nat} {x : SlotsD}
    (h0 : Sl tg 4 boolE w S A0 n0 c0 x.live) (h1 : Sl tg 52 (slE tg 3 intE) w S A1 n1 c1 x.free) (hn0 : n0 ≤ 100000000) (hn1 : n1 ≤ 100000000) (hx : ∀ l ∈ x.free, l.length ≤ 100000000) :
    Calls Try.prog 103 #[.agg #[.slice A0 n0 c0, .slice A1 n1 c1]] w (OwnPost w x) := by
  obtain ⟨i0, hi, hz0, hz1, hz2⟩ := info_parts Try.info_Ints
  have HX := Lib.hid hx; clear hx
  have HL1 := Lib.hid h1.len
  go_enter Try.func103, Try.ntmps103
  go_wp2_with fail
  refine (Clone_bool (h0.all (by repeat' (first | (with_reducible exact Below.refl _ _) | (with_reducible refine Below.alloc ?_ ?_ _) | (with_reducible refine Below.drew ?_) | (with_reducible refine below_drewN ?_ _) | (with_reducible refine Below.setCell ?_ ?_ _) | (refine via ?_ (by with_reducible assumption) ?_) | (refine via ?_ (below_ext _ _) ?_) | go_size))) hn0).mono ?_
  rintro e w1 ⟨A3, c3, rfl, hown3, hb3⟩
  (obtain ⟨hc_w1, hf_w1⟩ := bcell hb3; have z_w1_0 : w.heap.size < w1.heap.size := (by have := hb3.size; first | omega | (simp at this; omega)); have z_w1_1 : w.heap.size + 1 < w1.heap.size := (by have := hb3.size; first | omega | (simp at this; omega)))
  go_wp2_with fail
  go_loopw [5, 13] (fun _ i wr => ∃ k : Nat, ∃ A4 c4, ∃ ys : List (List Int × Nat × Nat), k ≤ n1 ∧ i = .int .i64 k ∧ wr.cell? ⟨w1.heap.size, 0, none⟩ = some (.slice A3 x.live.length c3) ∧ wr.cell? ⟨w1.heap.size, 1, none⟩ = some (.slice A4 k c4) ∧ wr.frozen? ⟨w1.heap.size, 1, none⟩ = false ∧
      Own 52 rowE wr (w1.heap.size + 1) (fun b => w1.heap.size + 1 ≤ b) A4 k c4 ys ∧ RowsOf wr.heap.size ys (x.free.take k) ∧ Below w1.heap.size w1 wr ∧ w1.heap.size < wr.heap.size) (fun _ i _ => n1 - (intOf i).toNat)
  case atStart => exact ⟨0, none, 0, [], Nat.zero_le _, rfl, by simp, by simp, by simp, by simpa using Own.nil_, RowsOf.nil, (by repeat' (first | (with_reducible exact Below.refl _ _) | (with_reducible refine Below.alloc ?_ ?_ _) | (with_reducible refine Below.drew ?_) | (with_reducible refine below_drewN ?_ _) | (with_reducible refine Below.setCell ?_ ?_ _) | (refine via ?_ (by with_reducible assumption) ?_) | (refine via ?_ (below_ext _ _) ?_) | go_size)), by simp⟩
  case round =>
    obtain ⟨k, A4, c4, ys, hk, rfl, hk0, hk1, hkf, hown, hrows, hB, hsz⟩ := hrel
    have HROWS := Lib.hid hrows; clear hrows
    by_cases hlt : k < n1
    · have hBw : Below w.heap.size w wr := (by repeat' (first | (with_reducible exact Below.refl _ _) | (with_reducible refine Below.alloc ?_ ?_ _) | (with_reducible refine Below.drew ?_) | (with_reducible refine below_drewN ?_ _) | (with_reducible refine Below.setCell ?_ ?_ _) | (refine via ?_ (by with_reducible assumption) ?_) | (refine via ?_ (below_ext _ _) ?_) | go_size))
      obtain ⟨b, off, A2, n2, c2, rfl, hS, hbl, h2, hc0, _⟩ := (h1.all hBw).sl_at hlt
      have hlx := HX.out _ (getD_mem (d := []) (show k < x.free.length by have := HL1.out; omega))
      have hl2 := h2.len
      have hn2 : n2 ≤ 100000000 := by omega
      clear hlx
      have HL2 := Lib.hid hl2; clear hl2
      have HB := Lib.hid hB; clear hB
      have HBw := Lib.hid hBw; clear hBw
      have hab := (hown.frame (Agree.drew _ _) (Nat.le_refl _)).above (fun b hb => Nat.le_trans hsz hb)
      go_wp2_with fail
      go_region_law (first
        | (refine step_call rfl 150 #[.tmp 19] #[52] rfl Try.func150 (by kernel_rfl) (by kernel_rfl) #[.slice A2 n2 c2] (by simp [Act.eval, Act.put]) (Clone_int (h2.all (by repeat' (first | (with_reducible exact Below.refl _ _) | (with_reducible refine Below.alloc ?_ ?_ _) | (with_reducible refine Below.drew ?_) | (with_reducible refine below_drewN ?_ _) | (with_reducible refine Below.setCell ?_ ?_ _) | (refine via ?_ (by with_reducible assumption) ?_) | (refine via ?_ (below_ext _ _) ?_) | go_size))) hn2) ?_; rintro e w5 ⟨A5, c5, rfl, hown5, hb5⟩; refine ⟨_, rfl, ?_⟩; have k51 := (hb5.cell (p := ⟨w1.heap.size, 1, none⟩) hsz).trans hk1; have z5 : w1.heap.size < w5.heap.size := (by have := hb5.size; first | omega | (simp at this; omega)))
        | ( refine step_append1 rfl (.tmp 18) (.tmp 21) 60 rfl i0 (.slice none 0 0) 24 Try.underlying60 hi hz0 hz1 hz2 rfl (by decide) (by simp [Act.eval]) (((hown.frame (Agree.drew _ _) (Nat.le_refl _)).all hb5).frame (Agree.alloc _ _ _) (by simp)) _ 52 1 _ (x.free.getD k [], wr.heap.size, w5.heap.size) (by simp [Act.eval]) (heap_alloc_new _ _) (rowE_new hown5 (by simp) (fun b hb => hab b hb)) (by omega) (by omega) (by simp; omega) ?_
            intro A6 c6 w6 hown6 hg6 hat6
            have hbl6 : w6.heap[w1.heap.size]? = wr.heap[w1.heap.size]? := by
              rw [hg6.block _ (by simp; omega) (fun e => by have := (hown.lt _ e.symm).1; omega), Below.heap_alloc _ _ _ z5]
              exact hb5.block _ hsz
            have k60 := (World.cell?_of_block (a := ⟨w1.heap.size, 0, none⟩) hbl6).trans hk0
            have k61 := (World.cell?_of_block (a := ⟨w1.heap.size, 1, none⟩) hbl6).trans hk1
            have k6f := (World.frozen?_of_block (a := ⟨w1.heap.size, 1, none⟩) hbl6).trans hkf))
      all_goals
        go_wp2
        go_roundw
        case rel =>
          have hB := HB.out
          have hs6 := hg6.size
          simp only [World.size_alloc] at hs6
          refine ⟨k + 1, A6, c6, ys ++ [(x.free.getD k [], wr.heap.size, w5.heap.size)], by omega, by go_num, ?_, World.cell?_setCell_same _ _ _ k61, ?_, ?_, ?_, ?_, ?_⟩
          · rw [World.cell?_setCell_other _ _ _ _ (by simp)]; exact k60
          · rw [World.frozen?_setCell]; exact k6f
          · exact hown6.frame (Agree.setCell (by
              rintro (h | h)
              · exact absurd h (by simp)
              · have := (hown6.lt _ h.symm).1; exact absurd this (by simp)) _) (by simp)
          · rw [take_snoc_getD (d := []) (by have := HL1.out; omega), World.size_setCell]
            exact HROWS.out.snoc (Nat.le_refl _) (by have := hb5.size; simpa using this) (by omega)
          · exact Below.setCell (((via hB.drew hb5 (Nat.le_refl _)).alloc (by omega) _).grown hg6 (by simp; omega) (fun r hr => by have := (hown.lt r hr).1; omega)) (by simp) _
          · rw [World.size_setCell]; omega
        case measure => simp [intOf]; omega
    · obtain ⟨hcB, hfB⟩ : (∀ b o, b < w1.heap.size → wr.cell? ⟨b, o, none⟩ = w1.cell? ⟨b, o, none⟩) ∧ (∀ b o, b < w1.heap.size → wr.frozen? ⟨b, o, none⟩ = w1.frozen? ⟨b, o, none⟩) := ⟨fun b o h => hB.cell (p := ⟨b, o, none⟩) h, fun b o h => hB.frozen (p := ⟨b, o, none⟩) h⟩
      have hz1 : w.heap.size + 1 < wr.heap.size := by omega
      go_wp2
      refine bodyPost_ret (v := .agg #[.slice A3 x.live.length c3, .slice A4 k c4]) (by simp [results, Try.results103, go_sem, *]; done) rfl ?_
      obtain rfl : k = n1 := by omega
      have e1 := HL1.out
      subst e1
      have hrw := HROWS.out
      rw [List.take_length] at hrw
      have hr4 := (hown.sl (tg := true)).mono (S' := fun b => w.heap.size + 2 ≤ b) (fun b hb _ => by simp at hb; omega)
      have hr3 := ((hown3.sl (tg := true)).lt_block).mono (S' := fun b => w.heap.size + 2 ≤ b ∧ b < w1.heap.size) (fun b hb _ => ⟨by have := hb.1; simp at this; omega, hb.2⟩)
      have hr3' := hr3.below hB (fun b hb _ => hb.2)
      refine ⟨_, _, _, _, _, _, ys, rfl, (hr3'.keep (by repeat' (first | (with_reducible exact Keeps.refl _ _) | (with_reducible refine Keeps.alloc ?_ _) | (with_reducible refine Keeps.drew ?_) | (with_reducible refine Keeps.drewN ?_ _) | (with_reducible refine Keeps.setCell ?_ ?_ _) | (refine Keeps.call ?_ (by with_reducible assumption)) | (with_reducible refine Keeps.ext ?_ _) | (simp; done) | (simp; omega) | omega))).mono (fun b hb _ => by omega), (hr4.keep (by repeat' (first | (with_reducible exact Keeps.refl _ _) | (with_reducible refine Keeps.alloc ?_ _) | (with_reducible refine Keeps.drew ?_) | (with_reducible refine Keeps.drewN ?_ _) | (with_reducible refine Keeps.setCell ?_ ?_ _) | (refine Keeps.call ?_ (by with_reducible assumption)) | (with_reducible refine Keeps.ext ?_ _) | (simp; done) | (simp; omega) | omega))).mono (fun b hb _ => by omega), hrw.grow (by simp), ?_⟩
      refine Below.setCell (Below.setCell ?_ (by simp) _) (by simp) _
      exact (via (by exact ((Below.refl _ w).alloc (Nat.le_refl _) _).alloc (by simp) _) hb3 (Nat.le_refl _)).trans (hB.mono (by omega))
end Go.Proofs.Ytfccghfcilccfaa
