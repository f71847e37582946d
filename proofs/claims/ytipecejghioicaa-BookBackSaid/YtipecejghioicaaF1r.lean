/- slices.Clone of slots; what was written for a stripe: place.of. Printed by gen_f1.py. -/
import Derived.Test.YtipecejghioicaaS3r
import Derived.Test.YtipecejghioicaaE2r
import Derived.Deep.Cut
namespace Go.Proofs.Ytipecejghioicaa
open Go.RowKit Go.Silo

set_option maxHeartbeats 400000 in
theorem Clone_slot {tg : Bool} {T : TypeId} {S : Nat → Prop} {w : World} {A : Option Addr} {n c : Nat} {xs : List (Slot)} (h : Sl tg T slotE w S A n c xs) (hn : n ≤ 100000000) :
    Calls Try.prog 39 #[.slice A n c] w (RetOwn 67 slotE w xs) := by
  obtain ⟨i0, hi, hz0, hz1, hz2⟩ := info_parts Try.info_Slot
  have HL := Lib.hid h.len
  have hq := fun W : World => Lib.run_eql_slice_nil (P := Try.prog) W 52 67 A n c 0 0 Try.underlying52
  cases A with
  | none =>
    go_enter Try.func39, Try.ntmps39
    go_wp2
    go_ret
    have hn0 : n = 0 := by
      rcases Nat.eq_zero_or_pos n with h0 | h0
      · exact h0
      · obtain ⟨_, _, e, _⟩ := h.2.2.2 h0; cases e
    subst hn0
    obtain rfl : xs = [] := List.eq_nil_of_length_eq_zero HL.out
    exact ⟨none, 0, rfl, Own.nil_, Below.refl _ _⟩
  | some ad =>
    have hlit : Own 67 slotE (w.alloc (.cells #[] 67)) w.heap.size (fun b => w.heap.size ≤ b) (some ⟨w.heap.size, 0, none⟩) 0 0 [] := Own.lit [] [] 0 (Nat.le_refl _) (by omega) (by simp) rfl (fun k y hy => by simp at hy)
    have hsl := (h.lt_block).frame (Agree.alloc _ w (.cells #[] 67)) (by simp)
    rcases Nat.eq_zero_or_pos n with h0 | h0
    · subst h0
      obtain rfl : xs = [] := List.eq_nil_of_length_eq_zero HL.out
      go_enter Try.func39, Try.ntmps39
      go_wp2_with (at_builtin; refine wpList_append_Own rfl _ _ 52 rfl i0 (.agg #[.int .i64 0, .int .i64 0]) 16 Try.underlying52 hi hz0 hz1 hz2 rfl (by decide) rfl hlit ad 0 _ [] [] rfl (by simp) (fun j u hj => by simp at hj) rfl (fun k y hy => by simp at hy) (fun u hu => by simp at hu) (by omega) (by omega) (by simp) ?_)
      intro A2 c2 w2 hown2 hg2 _
      go_wp2
      go_ret
      exact ⟨A2, c2, rfl, hown2, ((Below.refl _ w).alloc (Nat.le_refl _) _).grown hg2 (by simp) (fun k hk => by simp [ablk] at hk; omega)⟩
    · obtain ⟨b, off, e, _⟩ := h.2.2.2 h0
      injection e with e
      subst e
      go_enter Try.func39, Try.ntmps39
      go_wp2_with (at_builtin; refine wpList_append_sl rfl _ _ 52 rfl i0 (.agg #[.int .i64 0, .int .i64 0]) 16 Try.underlying52 hi hz0 hz1 hz2 rfl (by decide) rfl hlit rfl hsl (fun vs y _ hR => hR) (by omega) (by omega) (by simp) ?_)
      intro A2 c2 w2 hown2 hg2 _
      try simp only [Nat.zero_add, List.nil_append] at hown2
      have e1 := HL.out
      subst e1
      go_wp2
      go_ret
      exact ⟨A2, c2, by simp, hown2, ((Below.refl _ w).alloc (Nat.le_refl _) _).grown hg2 (by simp) (fun k hk => by simp [ablk] at hk; omega)⟩


end Go.Proofs.Ytipecejghioicaa
