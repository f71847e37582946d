/- silolaw17: num, wakes; the boxes of a law's shape and book. Printed by gen_n8.py. -/
import Derived.Test.YtjeecdoffoahkaaN7r
import Derived.Test.YtjeecdoffoahkaaH3r
namespace Go.Proofs.Ytjeecdoffoahkaa
open Go.RowKit Go.Silo

theorem num17_c {w : World} {e : Int} : Calls Try.prog 13 #[.int .i64 e] w (RetV (.int .i64 e) w) := by
  go_enter Try.func13, Try.ntmps13
  go_wp2
  go_ret
  exact ⟨rfl, (by repeat' (first | (with_reducible exact Below.refl _ _) | (with_reducible refine Below.alloc ?_ ?_ _) | (with_reducible refine Below.drew ?_) | (with_reducible refine below_drewN ?_ _) | (with_reducible refine Below.setCell ?_ ?_ _) | (refine via ?_ (by with_reducible assumption) ?_) | (refine via ?_ (below_ext _ _) ?_) | go_size))⟩
/-- The two boxes that a law's own shape and book lie in, while they are made. -/
def R3 (V : World) (i : Nat) (v : Value) (W : World) : Prop :=
  (i = 6 → ∃ g, v = .pointer (some ⟨g, 0, none⟩) ∧ V.heap.size ≤ g ∧ W.heap[g]? = some (.cells #[.int .i64 0, .int .i64 0, .int .i64 0] 23 (0, 0))) ∧
  (i = 7 → ∃ g, v = .pointer (some ⟨g, 0, none⟩) ∧ V.heap.size ≤ g ∧ W.heap[g]? = some (.cells #[.slice none 0 0, .slice none 0 0, .slice none 0 0, .int .i64 0] 28 (0, 0)))
theorem R3.all {V W W' : World} (hb : Below W.heap.size W W') (j : Nat) (v : Value) (h : R3 V j v W) : R3 V j v W' := by
  refine ⟨fun e => ?_, fun e => ?_⟩
  · obtain ⟨g, e, hg, hr⟩ := h.1 e; exact ⟨g, e, hg, (hb.block _ (Array.getElem?_eq_some_iff.1 hr).1).trans hr⟩
  · obtain ⟨g, e, hg, hr⟩ := h.2 e; exact ⟨g, e, hg, (hb.block _ (Array.getElem?_eq_some_iff.1 hr).1).trans hr⟩
def st31 (a b c : Value) (us : List (Nat × Value)) (W : World) : World := ((W.setCell ⟨blkOf ((us.lookup 6).getD undef), 0, none⟩ a).setCell ⟨blkOf ((us.lookup 6).getD undef), 1, none⟩ b).setCell ⟨blkOf ((us.lookup 6).getD undef), 2, none⟩ c
def st32 (a b c d : Value) (us : List (Nat × Value)) (W : World) : World := (((W.setCell ⟨blkOf ((us.lookup 7).getD undef), 0, none⟩ a).setCell ⟨blkOf ((us.lookup 7).getD undef), 1, none⟩ b).setCell ⟨blkOf ((us.lookup 7).getD undef), 2, none⟩ c).setCell ⟨blkOf ((us.lookup 7).getD undef), 3, none⟩ d
theorem row_set4 {w : World} {g : Nat} {a b c d u v z y : Value} {T : TypeId} (h : w.heap[g]? = some (.cells #[a, b, c, d] T (0, 0))) : ((((w.setCell ⟨g, 0, none⟩ u).setCell ⟨g, 1, none⟩ v).setCell ⟨g, 2, none⟩ z).setCell ⟨g, 3, none⟩ y).heap[g]? = some (.cells #[u, v, z, y] T (0, 0)) := by
  simp [World.setCell, Array.getElem?_modify, h]
theorem row_set3 {w : World} {g : Nat} {a b c u v z : Value} {T : TypeId} (h : w.heap[g]? = some (.cells #[a, b, c] T (0, 0))) : (((w.setCell ⟨g, 0, none⟩ u).setCell ⟨g, 1, none⟩ v).setCell ⟨g, 2, none⟩ z).heap[g]? = some (.cells #[u, v, z] T (0, 0)) := by
  simp [World.setCell, Array.getElem?_modify, h]
/-- The law's own boxes. -/
structure SB (W0 : World) (sh bk : List Value) (g5 g6 : Nat) (V : World) : Prop where
  r5 : V.heap[g5]? = some (.cells sh.toArray 23 (0, 0))
  r6 : V.heap[g6]? = some (.cells bk.toArray 28 (0, 0))
  below : Below W0.heap.size W0 V
theorem SB.all {W0 V V' : World} {sh bk : List Value} {g5 g6 : Nat} (h : SB W0 sh bk g5 g6 V) (hb : Below V.heap.size V V') : SB W0 sh bk g5 g6 V' :=
  ⟨(hb.block _ (Array.getElem?_eq_some_iff.1 h.r5).1).trans h.r5, (hb.block _ (Array.getElem?_eq_some_iff.1 h.r6).1).trans h.r6, h.below.trans (hb.mono h.below.size)⟩
theorem SB.h5 {W0 V : World} {sh bk : List Value} {g5 g6 : Nat} (h : SB W0 sh bk g5 g6 V) : g5 < V.heap.size := (Array.getElem?_eq_some_iff.1 h.r5).1
theorem SB.h6 {W0 V : World} {sh bk : List Value} {g5 g6 : Nat} (h : SB W0 sh bk g5 g6 V) : g6 < V.heap.size := (Array.getElem?_eq_some_iff.1 h.r6).1
/-- The one stripe of 'wakes'. -/
def wakeB : Book := ⟨[⟨4, 1, 0, [⟨0, 0⟩]⟩], [], [], 9⟩
theorem wakeB_next : nextR ⟨1, 0, 1⟩ wakeB ⟨-1, -1⟩ = (⟨4, 0⟩, 0) := by decide
theorem wakeB_few : Few wakeB := ⟨by decide, by decide, by decide⟩
set_option maxRecDepth 100000 in
set_option maxHeartbeats 4000000 in
theorem wakes17_c {w : World} : Calls Try.prog 23 #[] w (RetV (.bool true) w) := by
  obtain ⟨ic, hic, hzc0, hzc1, hzc2⟩ := info_parts Try.info_Slot
  go_enter Try.func23, Try.ntmps23
  go_wp2_with (at_make; refine wpList_make_full _ rfl _ _ 75 rfl w.heap.size 112 ic (.agg #[.int .i64 0, .int .i64 0]) 2 Try.underlying75 hic hzc0 hzc1 .i64 .i64 _ _ 1 rfl rfl rfl rfl (by rw [hzc2]; decide) (by decide) (Nat.le_refl _) ?_)
  intro w1 hown hg
  have hO : Silo.Own 112 slotE w1 w.heap.size (fun _ => False) (some ⟨w.heap.size, 0, none⟩) 1 1 [⟨0, 0⟩] := by
    refine ⟨_, hown, rfl, fun k x hx => ?_⟩
    match k, hx with
    | 0, hx =>
      injection hx with hx
      subst hx
      have hmc : (madeCells #[.int .i64 0, .int .i64 0] 2).toList = [.int .i64 0, .int .i64 0] := by kernel_rfl
      refine ⟨?_, by unfold I64; decide, by unfold I64; decide⟩
      rw [hmc]
      rfl
  have hSl := (hO.sl (tg := true))
  have hb1 : Below w.heap.size w w1 := (Below.refl _ _).grown hg (Nat.le_refl _) (fun r e => by cases e)
  have HSL := Lib.hid hSl; clear hSl hO hown hg
  have HB1 := Lib.hid hb1; clear hb1
  go_wp2_with fail
  have hst : Silo.Own 97 (stripeE true) (w1.alloc (.cells #[.int .i64 4, .int .i64 1, .int .i64 0, .slice (some ⟨w.heap.size, 0, none⟩) 1 1] 97)) w1.heap.size (fun _ => True) (some ⟨w1.heap.size, 0, none⟩) 1 1 [⟨4, 1, 0, [⟨0, 0⟩]⟩] :=
    Silo.Own.lit (E := stripeE true) [.int .i64 4, .int .i64 1, .int .i64 0, .slice (some ⟨w.heap.size, 0, none⟩) 1 1] [⟨4, 1, 0, [⟨0, 0⟩]⟩] 1 (Nat.le_refl _) (by decide) rfl rfl (fun k y hy => by
      match k, hy with
      | 0, hy =>
        injection hy with hy
        subst hy
        exact ⟨_, _, _, rfl, ⟨by unfold I64; decide, by unfold I64; decide, by unfold I64; decide⟩, HSL.out.mono (fun _ _ _ => trivial)⟩)
  have hS2 := (hst.all (w' := (w1.alloc (.cells #[.int .i64 4, .int .i64 1, .int .i64 0, .slice (some ⟨w.heap.size, 0, none⟩) 1 1] 97)).alloc (.cells #[.slice (some ⟨w1.heap.size, 0, none⟩) 1 1, .slice none 0 0, .slice none 0 0, .int .i64 9] 28)) ((Below.refl _ _).alloc (Nat.le_refl _) _)).sl (tg := true)
  have hBW : Below w.heap.size w ((w1.alloc (.cells #[.int .i64 4, .int .i64 1, .int .i64 0, .slice (some ⟨w.heap.size, 0, none⟩) 1 1] 97)).alloc (.cells #[.slice (some ⟨w1.heap.size, 0, none⟩) 1 1, .slice none 0 0, .slice none 0 0, .int .i64 9] 28)) := HB1.out.trans (((Below.refl w1.heap.size w1).alloc (Nat.le_refl _) _).alloc (by simp) _ |>.mono HB1.out.size)
  generalize (w1.alloc (.cells #[.int .i64 4, .int .i64 1, .int .i64 0, .slice (some ⟨w.heap.size, 0, none⟩) 1 1] 97)).alloc (.cells #[.slice (some ⟨w1.heap.size, 0, none⟩) 1 1, .slice none 0 0, .slice none 0 0, .int .i64 9] 28) = W at *
  have hBR : BookR W (fun b => b < W.heap.size) true true true true (some ⟨w1.heap.size, 0, none⟩) 1 1 none 0 0 none 0 0 wakeB := ⟨hS2.mono (fun b _ h => h), Sl.nil_ (by decide), Sl.nil_ (by decide), by unfold I64 wakeB; decide⟩
  refine (Next_c (s := ⟨1, 0, 1⟩) (b := wakeB) (c := ⟨-1, -1⟩) ⟨by unfold I64; decide, by unfold I64; decide, by unfold I64; decide⟩ wakeB_few hBR (fun k h => h)).mono ?_
  rintro e w2 ⟨rfl, hb2⟩
  rw [wakeB_next]
  have HB2 := Lib.hid (hBW.trans (hb2.mono hBW.size)); clear hBW hb2 hst hS2 hBR HSL HB1
  have hw2 := HB2.out.size
  go_wp2_with fail
  refine (num17_c (e := 0)).mono ?_
  rintro e w3 ⟨rfl, hb3⟩
  have hx := (hb3.block w2.heap.size (by simp)).trans (heap_alloc_new w2 (.cells #[.int .i64 4, .int .i64 0] 44))
  have x0 := (cell_of_row _ _ 0 _ _ _ hx).trans (show _ = some (.int .i64 4 : Value) from rfl)
  have x1 := (cell_of_row _ _ 1 _ _ _ hx).trans (show _ = some (.int .i64 0 : Value) from rfl)
  have HB3 := Lib.hid ((HB2.out.alloc hw2 (.cells #[.int .i64 4, .int .i64 0] 44)).trans (hb3.mono (by simp; omega)))
  clear hb3 hx
  have hq : ∀ V : World, (Op.equalIn 10000 44 (.agg #[.int .i64 4, .int .i64 0]) (.agg #[.int .i64 4, .int .i64 0])).run Try.prog V = .ok true V := fun V => (eqv_Cursor ⟨4, 0⟩ ⟨4, 0⟩ V).trans (by rw [decide_eq_true rfl])
  have hqg := eqg_Cursor
  go_wp2
  go_ret
  exact ⟨by rfl, HB3.out⟩
end Go.Proofs.Ytjeecdoffoahkaa
