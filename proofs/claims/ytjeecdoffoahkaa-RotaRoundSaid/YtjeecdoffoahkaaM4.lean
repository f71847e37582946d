/- silolaw17.RotaRound: in a round each piece comes once, and then all come again. Printed by gen_m4.py. -/
import Derived.Test.YtjeecdoffoahkaaN8
import Derived.Deep.CutBlock
import Derived.Deep.Cut
namespace Go.Proofs.Ytjeecdoffoahkaa
open Go.RowKit Go.Silo

set_option maxRecDepth 100000 in
set_option maxHeartbeats 16000000 in
theorem RotaRound_c {tg : Bool} {S : Nat → Prop} {w : World} {A0 A1 A2 A3 A4 : Option Addr} {n0 c0 n1 c1 n2 c2 n3 c3 n4 c4 : Nat} {A5 : Option Addr} {n5 c5 : Nat} {q : ScriptD} {cs : List Cursor} {m : Int} (hB : ScriptDB q) (hsi : I64 q.s.K ∧ I64 q.s.M ∧ I64 q.s.size) (hb : BookR w S tg tg tg tg A0 n0 c0 A1 n1 c1 A2 n2 c2 q.b) (hS : ∀ k, S k → k < w.heap.size) (hl : Sl tg 183 (recordE tg) w S A3 n3 c3 q.l) (hv : Sl tg 4 boolE w S A4 n4 c4 q.live) (hc : Sl tg 44 cursorE w S A5 n5 c5 cs) :
    Calls Try.prog 4 #[.agg #[.int .i64 q.s.K, .int .i64 q.s.M, .int .i64 q.s.size, .slice A0 n0 c0, .slice A1 n1 c1, .slice A2 n2 c2, .int .i64 q.b.next, .slice A3 n3 c3, .slice A4 n4 c4, .int .i64 q.n, .slice A5 n5 c5, .int .i64 m]] w (RetV (.bool true) w) := by
  have HHH := Lib.hid (fun W (hW : Below w.heap.size w W) => Heavy17_c (w := W) (m := m) hB (hb.all hW) (hl.all hW) (hv.all hW) (hc.all hW))
  have HBB := Lib.hid (fun W (hW : Below w.heap.size w W) => hb.all hW)
  have HSI := Lib.hid hsi
  have HSW := Lib.hid (fun W (hW : Below w.heap.size w W) => (fun k hk => Nat.lt_of_lt_of_le (hS k hk) hW.size : ∀ k, S k → k < W.heap.size))
  have HL := Lib.hid hb.st.len
  clear hB hb hl hv hc hS hsi
  have hal : Below w.heap.size w (w.alloc (.cells #[.int .i64 q.s.K, .int .i64 q.s.M, .int .i64 q.s.size, .slice A0 n0 c0, .slice A1 n1 c1, .slice A2 n2 c2, .int .i64 q.b.next, .slice A3 n3 c3, .slice A4 n4 c4, .int .i64 q.n, .slice A5 n5 c5, .int .i64 m] 35)) := (by repeat' (first | (with_reducible exact Below.refl _ _) | (with_reducible refine Below.alloc ?_ ?_ _) | (with_reducible refine Below.drew ?_) | (with_reducible refine below_drewN ?_ _) | (with_reducible refine Below.setCell ?_ ?_ _) | (refine via ?_ (by with_reducible assumption) ?_) | (refine via ?_ (below_ext _ _) ?_) | go_size))
  have hr0 : (w.alloc (.cells #[.int .i64 q.s.K, .int .i64 q.s.M, .int .i64 q.s.size, .slice A0 n0 c0, .slice A1 n1 c1, .slice A2 n2 c2, .int .i64 q.b.next, .slice A3 n3 c3, .slice A4 n4 c4, .int .i64 q.n, .slice A5 n5 c5, .int .i64 m] 35)).heap[w.heap.size]? = some (.cells #[.int .i64 q.s.K, .int .i64 q.s.M, .int .i64 q.s.size, .slice A0 n0 c0, .slice A1 n1 c1, .slice A2 n2 c2, .int .i64 q.b.next, .slice A3 n3 c3, .slice A4 n4 c4, .int .i64 q.n, .slice A5 n5 c5, .int .i64 m] 35 (0, 0)) := by
    have := heap_alloc_new w (.cells #[.int .i64 q.s.K, .int .i64 q.s.M, .int .i64 q.s.size, .slice A0 n0 c0, .slice A1 n1 c1, .slice A2 n2 c2, .int .i64 q.b.next, .slice A3 n3 c3, .slice A4 n4 c4, .int .i64 q.n, .slice A5 n5 c5, .int .i64 m] 35)
    simpa only [World.size_alloc] using this
  have hz : w.heap.size < (w.alloc (.cells #[.int .i64 q.s.K, .int .i64 q.s.M, .int .i64 q.s.size, .slice A0 n0 c0, .slice A1 n1 c1, .slice A2 n2 c2, .int .i64 q.b.next, .slice A3 n3 c3, .slice A4 n4 c4, .int .i64 q.n, .slice A5 n5 c5, .int .i64 m] 35)).heap.size := by simp
  go_enter Try.func4, Try.ntmps4
  go_upto_region 1 with (fail)
  generalize (w.alloc (.cells #[.int .i64 q.s.K, .int .i64 q.s.M, .int .i64 q.s.size, .slice A0 n0 c0, .slice A1 n1 c1, .slice A2 n2 c2, .int .i64 q.b.next, .slice A3 n3 c3, .slice A4 n4 c4, .int .i64 q.n, .slice A5 n5 c5, .int .i64 m] 35)) = W0 at *
  have HAL := Lib.hid (fun V (hV : Below W0.heap.size W0 V) => hal.trans (hV.mono hal.size)); clear hal
  have ROW := Lib.hid (fun V (hV : Below W0.heap.size W0 V) => (show V.heap[w.heap.size]? = some (.cells #[.int .i64 q.s.K, .int .i64 q.s.M, .int .i64 q.s.size, .slice A0 n0 c0, .slice A1 n1 c1, .slice A2 n2 c2, .int .i64 q.b.next, .slice A3 n3 c3, .slice A4 n4 c4, .int .i64 q.n, .slice A5 n5 c5, .int .i64 m] 35 (0, 0)) from (hV.block _ (by omega)).trans hr0))
  clear hr0
  have r0 := ROW.out W0 (Below.refl _ _)
  have b00 := (cell_of_row _ _ 0 _ _ _ r0).trans (show _ = some (.int .i64 q.s.K : Value) from rfl)
  have b01 := (cell_of_row _ _ 1 _ _ _ r0).trans (show _ = some (.int .i64 q.s.M : Value) from rfl)
  have b02 := (cell_of_row _ _ 2 _ _ _ r0).trans (show _ = some (.int .i64 q.s.size : Value) from rfl)
  have b03 := (cell_of_row _ _ 3 _ _ _ r0).trans (show _ = some (.slice _ n0 c0 : Value) from rfl)
  have b04 := (cell_of_row _ _ 4 _ _ _ r0).trans (show _ = some (.slice _ n1 c1 : Value) from rfl)
  have b05 := (cell_of_row _ _ 5 _ _ _ r0).trans (show _ = some (.slice _ n2 c2 : Value) from rfl)
  have b06 := (cell_of_row _ _ 6 _ _ _ r0).trans (show _ = some (.int .i64 q.b.next : Value) from rfl)
  have b07 := (cell_of_row _ _ 7 _ _ _ r0).trans (show _ = some (.slice _ n3 c3 : Value) from rfl)
  have b08 := (cell_of_row _ _ 8 _ _ _ r0).trans (show _ = some (.slice _ n4 c4 : Value) from rfl)
  have b09 := (cell_of_row _ _ 9 _ _ _ r0).trans (show _ = some (.int .i64 q.n : Value) from rfl)
  have b010 := (cell_of_row _ _ 10 _ _ _ r0).trans (show _ = some (.slice _ n5 c5 : Value) from rfl)
  have b011 := (cell_of_row _ _ 11 _ _ _ r0).trans (show _ = some (.int .i64 m : Value) from rfl)
  clear r0
  go_wp2_with fail
  refine (HHH.out _ (HAL.out _ (Below.refl _ _))).mono ?_
  clear b00 b01 b02 b03 b04 b05 b06 b07 b08 b09 b010 b011
  rintro e w1 ⟨v1, rfl, hb1, hv1⟩
  have HB1 := Lib.hid hb1; clear hb1 HHH
  cases v1 with
  | true =>
    go_wp2_with fail
    refine wakes17_c.mono ?_
    rintro e wz ⟨rfl, hbz⟩
    have HBZ := Lib.hid (HB1.out.trans (hbz.mono (HB1.out).size)); clear hbz
    go_wp2
    go_ret
    exact ⟨by trivial, HAL.out _ HBZ.out⟩
  | false =>
    have HF := Lib.hid (hv1 rfl).1.few
    have HLI := Lib.hid (hv1 rfl).1; clear hv1
    have hn0 : n0 ≤ 2500 := by have := HLI.out.bk; have := HL.out; omega
    have hzi := Nat.lt_of_lt_of_le hz HB1.out.size
    have CEL3 : Hid (∀ us w6, WdT w1 w1.heap.size (R3 w1) (fun _ => True) 8 9 (st31 (.int .i64 q.s.K) (.int .i64 q.s.M) (.int .i64 q.s.size)) (st32 (.slice A0 n0 c0) (.slice A1 n1 c1) (.slice A2 n2 c2) (.int .i64 q.b.next)) us w6 → w6.heap[w.heap.size]? = some (.cells #[.int .i64 q.s.K, .int .i64 q.s.M, .int .i64 q.s.size, .slice A0 n0 c0, .slice A1 n1 c1, .slice A2 n2 c2, .int .i64 q.b.next, .slice A3 n3 c3, .slice A4 n4 c4, .int .i64 q.n, .slice A5 n5 c5, .int .i64 m] 35 (0, 0))) := Lib.hid (fun us w6 hW => ((hW.below (Nat.le_refl _)).block _ hzi).trans (ROW.out w1 HB1.out))
    go_wp2_with fail
    refine region_free (by kernel_rfl) (by kernel_rfl) 114 rfl [14, 15, 16, 17, 18, 19, 3, 4] [6, 7, 8, 9] [(3, 6), (4, 7)]
      [(14, [], fun _ => .pointer (some ⟨w.heap.size, 0, none⟩)), (15, [], fun _ => .pointer (some ⟨w.heap.size, 0, none⟩)), (16, [], fun _ => .agg #[.int .i64 q.s.K, .int .i64 q.s.M, .int .i64 q.s.size]), (17, [], fun _ => .pointer (some ⟨w.heap.size, 0, none⟩)), (18, [], fun _ => .pointer (some ⟨w.heap.size, 3, none⟩)), (19, [], fun _ => .agg #[.slice A0 n0 c0, .slice A1 n1 c1, .slice A2 n2 c2, .int .i64 q.b.next])]
      [[], [], [], [], [], [], [8], [8]] [[], [], [], [], [], [], [], [], [6, 7], [6, 7, 8]] [[], [14], [15], [], [17], [18], [], [], [3, 16], [4, 19]]
      (WdT w1 w1.heap.size (R3 w1) (fun _ => True) 8 9 (st31 (.int .i64 q.s.K) (.int .i64 q.s.M) (.int .i64 q.s.size)) (st32 (.slice A0 n0 c0) (.slice A1 n1 c1) (.slice A2 n2 c2) (.int .i64 q.b.next))) (by kernel_rfl) .init ⟨?_, ?_, ?_, ?_, ?_, ?_, ?_, ?_, ?_, ?_, trivial⟩ ?_
    -- FAST10 cdot
    · (refine OpH.rd rfl rfl (fun ρ us w6 ho ht hc hl hsrc hW => ?_); have e1 := (ho 1 rfl).trans (show _ = (.pointer (some ⟨w.heap.size, 0, none⟩) : Value) from rfl); clear ht ho; simp only [execOp, e1]; go_simp; try rfl)
    · (refine OpH.rd rfl rfl (fun ρ us w6 ho ht hc hl hsrc hW => ?_); have e14 := (ht 14 (by decide)).trans (show _ = (.pointer (some ⟨w.heap.size, 0, none⟩) : Value) from rfl); clear ht ho; simp only [execOp, e14]; go_simp; try rfl)
    · (refine OpH.rd rfl rfl (fun ρ us w6 ho ht hc hl hsrc hW => ?_); have e15 := (ht 15 (by decide)).trans (show _ = (.pointer (some ⟨w.heap.size, 0, none⟩) : Value) from rfl); have rr := CEL3.out us w6 hW; have x0 := cell_of_row _ _ 0 _ _ _ rr; have x1 := cell_of_row _ _ 1 _ _ _ rr; have x2 := cell_of_row _ _ 2 _ _ _ rr; have x3 := cell_of_row _ _ 3 _ _ _ rr; have x4 := cell_of_row _ _ 4 _ _ _ rr; have x5 := cell_of_row _ _ 5 _ _ _ rr; have x6 := cell_of_row _ _ 6 _ _ _ rr; clear rr; clear ht ho; simp only [execOp, e15]; go_simp; try rfl)
    · (refine OpH.rd rfl rfl (fun ρ us w6 ho ht hc hl hsrc hW => ?_); have e1 := (ho 1 rfl).trans (show _ = (.pointer (some ⟨w.heap.size, 0, none⟩) : Value) from rfl); clear ht ho; simp only [execOp, e1]; go_simp; try rfl)
    · (refine OpH.rd rfl rfl (fun ρ us w6 ho ht hc hl hsrc hW => ?_); have e17 := (ht 17 (by decide)).trans (show _ = (.pointer (some ⟨w.heap.size, 0, none⟩) : Value) from rfl); clear ht ho; simp only [execOp, e17]; go_simp; try rfl)
    · (refine OpH.rd rfl rfl (fun ρ us w6 ho ht hc hl hsrc hW => ?_); have e18 := (ht 18 (by decide)).trans (show _ = (.pointer (some ⟨w.heap.size, 3, none⟩) : Value) from rfl); have rr := CEL3.out us w6 hW; have x0 := cell_of_row _ _ 0 _ _ _ rr; have x1 := cell_of_row _ _ 1 _ _ _ rr; have x2 := cell_of_row _ _ 2 _ _ _ rr; have x3 := cell_of_row _ _ 3 _ _ _ rr; have x4 := cell_of_row _ _ 4 _ _ _ rr; have x5 := cell_of_row _ _ 5 _ _ _ rr; have x6 := cell_of_row _ _ 6 _ _ _ rr; clear rr; clear ht ho; simp only [execOp, e18]; go_simp; try rfl)
    · refine OpH.wr rfl (fun Z us w6 ho ht hni hlim hreq hW K hK => ?_)
      have hdone := hW.snoc (i := 6) (x := .pointer (some ⟨w6.heap.size, 0, none⟩)) (by decide) (by decide) (hlim 8 (by decide)) ((Below.refl _ _).alloc (Nat.le_refl _) (.cells #[.int .i64 0, .int .i64 0, .int .i64 0] 23)) (fun j v h => R3.all ((Below.refl _ _).alloc (Nat.le_refl _) _) j v h) ⟨(fun _ => ⟨_, rfl, (hW.below (Nat.le_refl _)).size, heap_alloc_new _ _⟩), (fun h => absurd h (by decide))⟩
      have HDN := Lib.hid hdone; clear hdone hW hni hlim hreq ho ht
      rw [if_pos (by simp [Region.wanted])]
      unfold Oper.wp
      generalize Z.eval = ρ at *
      simp only [execOp]
      go_simp
      exact hK _ _ HDN.out
    · refine OpH.wr rfl (fun Z us w6 ho ht hni hlim hreq hW K hK => ?_)
      have hdone := hW.snoc (i := 7) (x := .pointer (some ⟨w6.heap.size, 0, none⟩)) (by decide) (by decide) (hlim 8 (by decide)) ((Below.refl _ _).alloc (Nat.le_refl _) (.cells #[.slice none 0 0, .slice none 0 0, .slice none 0 0, .int .i64 0] 28)) (fun j v h => R3.all ((Below.refl _ _).alloc (Nat.le_refl _) _) j v h) ⟨(fun h => absurd h (by decide)), (fun _ => ⟨_, rfl, (hW.below (Nat.le_refl _)).size, heap_alloc_new _ _⟩)⟩
      have HDN := Lib.hid hdone; clear hdone hW hni hlim hreq ho ht
      rw [if_pos (by simp [Region.wanted])]
      unfold Oper.wp
      generalize Z.eval = ρ at *
      simp only [execOp]
      go_simp
      exact hK _ _ HDN.out
    · refine OpH.wr rfl (fun Z us w6 ho ht hni hlim hreq hW K hK => ?_)
      obtain ⟨g, ev, hg, hr⟩ := (hW.at_ hni (hreq 6 (by decide))).1 rfl
      have e3 := ((ht 3 (by decide)).trans (show _ = (us.lookup 6).getD undef from rfl)).trans ev
      have es := (ht 16 (by decide)).trans (show _ = (.agg #[.int .i64 q.s.K, .int .i64 q.s.M, .int .i64 q.s.size] : Value) from rfl)
      have hst : st31 (.int .i64 q.s.K) (.int .i64 q.s.M) (.int .i64 q.s.size) us w6 = (((w6.setCell ⟨g, 0, none⟩ (.int .i64 q.s.K)).setCell ⟨g, 1, none⟩ (.int .i64 q.s.M)).setCell ⟨g, 2, none⟩ (.int .i64 q.s.size)) := by unfold st31; rw [ev]; rfl
      have hdone := hW.store1 hni (x := undef) trivial (by rw [hst]; exact (((hW.below (Nat.le_refl _)).setCell hg _).setCell hg _).setCell hg _)
      rw [hst] at hdone
      have f0 := (cell_of_row w6 g 0 _ _ _ hr).trans (show _ = some (Value.int .i64 0) from rfl)
      have fz0 := frozen_of_row w6 g 0 _ _ hr
      have f1 := (cell_of_row w6 g 1 _ _ _ hr).trans (show _ = some (Value.int .i64 0) from rfl)
      have fz1 := frozen_of_row w6 g 1 _ _ hr
      have f2 := (cell_of_row w6 g 2 _ _ _ hr).trans (show _ = some (Value.int .i64 0) from rfl)
      have fz2 := frozen_of_row w6 g 2 _ _ hr
      have HDN := Lib.hid hdone; clear hdone hW hni hlim hreq ho ht hst hr ev
      rw [if_pos (by simp [Region.wanted])]
      unfold Oper.wp
      generalize Z.eval = ρ at *
      simp only [execOp, e3, es]
      go_simp
      exact hK undef _ HDN.out
    · refine OpH.wr rfl (fun Z us w6 ho ht hni hlim hreq hW K hK => ?_)
      have q6 := hreq 6 (by decide)
      have q7 := hreq 7 (by decide)
      obtain ⟨us0, W6, x0, rfl, rfl, hb, hR, hn1, hn2, _, hb1⟩ := hW.mid (hreq 8 (by decide)) hni
      obtain ⟨v6, l6, m6⟩ := lookup_mem (before_mid q6 (by decide))
      obtain ⟨v7, l7, m7⟩ := lookup_mem (before_mid q7 (by decide))
      obtain ⟨g5, rfl, hg5, r5⟩ := (hR 6 v6 m6).1 rfl
      obtain ⟨g6, rfl, hg6, r6⟩ := (hR 7 v7 m7).2 rfl
      have hne : g6 ≠ g5 := fun e => by rw [e, r5] at r6; cases r6
      have e4 := ((ht 4 (by decide)).trans (show _ = ((us0 ++ [(8, x0)]).lookup 7).getD undef from rfl)).trans (show _ = (.pointer (some ⟨g6, 0, none⟩) : Value) by rw [lookup_mid (by decide), l7]; rfl)
      have es := (ht 19 (by decide)).trans (show _ = (.agg #[.slice A0 n0 c0, .slice A1 n1 c1, .slice A2 n2 c2, .int .i64 q.b.next] : Value) from rfl)
      have r6' : (st31 (.int .i64 q.s.K) (.int .i64 q.s.M) (.int .i64 q.s.size) us0 W6).heap[g6]? = some (.cells #[.slice none 0 0, .slice none 0 0, .slice none 0 0, .int .i64 0] 28 (0, 0)) := by
        unfold st31
        rw [l6]
        show (((W6.setCell ⟨g5, 0, none⟩ _).setCell ⟨g5, 1, none⟩ _).setCell ⟨g5, 2, none⟩ _).heap[g6]? = _
        rw [Below.heap_setCell _ _ _ _ hne, Below.heap_setCell _ _ _ _ hne, Below.heap_setCell _ _ _ _ hne]; exact r6
      have hst : ∀ W, st32 (.slice A0 n0 c0) (.slice A1 n1 c1) (.slice A2 n2 c2) (.int .i64 q.b.next) us0 W = ((((W.setCell ⟨g6, 0, none⟩ (.slice A0 n0 c0)).setCell ⟨g6, 1, none⟩ (.slice A1 n1 c1)).setCell ⟨g6, 2, none⟩ (.slice A2 n2 c2)).setCell ⟨g6, 3, none⟩ (.int .i64 q.b.next)) := fun W => by unfold st32; rw [l7]; rfl
      have hdone := WdT.two (V := w1) (m := w1.heap.size) (R := R3 w1) (Pre := fun _ => True) (st1 := (st31 (.int .i64 q.s.K) (.int .i64 q.s.M) (.int .i64 q.s.size))) (st2 := (st32 (.slice A0 n0 c0) (.slice A1 n1 c1) (.slice A2 n2 c2) (.int .i64 q.b.next))) (x := x0) (x' := undef) hb hR hn1 hn2 trivial (by rw [hst]; exact (((hb1.setCell hg6 _).setCell hg6 _).setCell hg6 _).setCell hg6 _)
      rw [hst] at hdone
      have HDN := Lib.hid hdone; clear hdone hst hb hR hn1 hn2 hb1 hW hni hlim hreq ho ht q6 q7 l6 l7 m6 m7 r5 r6
      generalize st31 (.int .i64 q.s.K) (.int .i64 q.s.M) (.int .i64 q.s.size) us0 W6 = W7 at *
      have f0 := (cell_of_row W7 g6 0 _ _ _ r6').trans (show _ = some (Value.slice none 0 0) from rfl)
      have fz0 := frozen_of_row W7 g6 0 _ _ r6'
      have f1 := (cell_of_row W7 g6 1 _ _ _ r6').trans (show _ = some (Value.slice none 0 0) from rfl)
      have fz1 := frozen_of_row W7 g6 1 _ _ r6'
      have f2 := (cell_of_row W7 g6 2 _ _ _ r6').trans (show _ = some (Value.slice none 0 0) from rfl)
      have fz2 := frozen_of_row W7 g6 2 _ _ r6'
      have f3 := (cell_of_row W7 g6 3 _ _ _ r6').trans (show _ = some (Value.int .i64 0) from rfl)
      have fz3 := frozen_of_row W7 g6 3 _ _ r6'
      clear r6'
      rw [if_pos (by simp [Region.wanted])]
      unfold Oper.wp
      generalize Z.eval = ρ at *
      simp only [execOp, e4, es]
      go_simp
      exact hK undef _ HDN.out
    -- TSAF
    · intro us w9 hmem hW
      have hB9 := hW.below (Nat.le_refl _)
      obtain ⟨us0, W6, x0, x1, rfl, rfl, hb, hR, hn1, hn2, _, hb2⟩ := hW.last (hmem 9 (by decide)) (by decide)
      obtain ⟨v6, l6, m6⟩ := lookup_mem (before_last (hmem 6 (by decide)) (by decide) (by decide))
      obtain ⟨v7, l7, m7⟩ := lookup_mem (before_last (hmem 7 (by decide)) (by decide) (by decide))
      obtain ⟨g5, rfl, hg5, r5⟩ := (hR 6 v6 m6).1 rfl
      obtain ⟨g6, rfl, hg6, r6⟩ := (hR 7 v7 m7).2 rfl
      have hne : g6 ≠ g5 := fun e => by rw [e, r5] at r6; cases r6
      have hst1 : st31 (.int .i64 q.s.K) (.int .i64 q.s.M) (.int .i64 q.s.size) us0 W6 = (((W6.setCell ⟨g5, 0, none⟩ (.int .i64 q.s.K)).setCell ⟨g5, 1, none⟩ (.int .i64 q.s.M)).setCell ⟨g5, 2, none⟩ (.int .i64 q.s.size)) := by unfold st31; rw [l6]; rfl
      have hst2 : ∀ W, st32 (.slice A0 n0 c0) (.slice A1 n1 c1) (.slice A2 n2 c2) (.int .i64 q.b.next) us0 W = ((((W.setCell ⟨g6, 0, none⟩ (.slice A0 n0 c0)).setCell ⟨g6, 1, none⟩ (.slice A1 n1 c1)).setCell ⟨g6, 2, none⟩ (.slice A2 n2 c2)).setCell ⟨g6, 3, none⟩ (.int .i64 q.b.next)) := fun W => by unfold st32; rw [l7]; rfl
      rw [hst2, hst1] at hB9 ⊢
      have R5 := row_set3 (u := .int .i64 q.s.K) (v := .int .i64 q.s.M) (z := .int .i64 q.s.size) r5
      have R6 : (((W6.setCell ⟨g5, 0, none⟩ (.int .i64 q.s.K)).setCell ⟨g5, 1, none⟩ (.int .i64 q.s.M)).setCell ⟨g5, 2, none⟩ (.int .i64 q.s.size)).heap[g6]? = _ := (Below.heap_setCell _ _ _ _ hne).trans ((Below.heap_setCell _ _ _ _ hne).trans ((Below.heap_setCell _ _ _ _ hne).trans r6))
      have RR6 := row_set4 (u := .slice A0 n0 c0) (v := .slice A1 n1 c1) (z := .slice A2 n2 c2) (y := .int .i64 q.b.next) R6
      have hne' := Ne.symm hne
      have RR5 : (((((((W6.setCell ⟨g5, 0, none⟩ (.int .i64 q.s.K)).setCell ⟨g5, 1, none⟩ (.int .i64 q.s.M)).setCell ⟨g5, 2, none⟩ (.int .i64 q.s.size)).setCell ⟨g6, 0, none⟩ (.slice A0 n0 c0)).setCell ⟨g6, 1, none⟩ (.slice A1 n1 c1)).setCell ⟨g6, 2, none⟩ (.slice A2 n2 c2)).setCell ⟨g6, 3, none⟩ (.int .i64 q.b.next)).heap[g5]? = _ := (Below.heap_setCell _ _ _ _ hne').trans ((Below.heap_setCell _ _ _ _ hne').trans ((Below.heap_setCell _ _ _ _ hne').trans ((Below.heap_setCell _ _ _ _ hne').trans R5)))
      simp only [putAll, List.map_cons, List.map_nil, List.foldl_cons, List.foldl_nil, Act.put, List.setIfInBounds_toArray, List.set_cons_succ, List.set_cons_zero]
      generalize hsv : slotAt _ _ _ = sv
      have hs3 : sv 3 = .pointer (some ⟨g5, 0, none⟩) := by rw [← hsv]; show ((us0 ++ [(8, x0)] ++ [(9, x1)]).lookup 6).getD undef = _; rw [lookup_last (by decide) (by decide), l6]; rfl
      have hs4 : sv 4 = .pointer (some ⟨g6, 0, none⟩) := by rw [← hsv]; show ((us0 ++ [(8, x0)] ++ [(9, x1)]).lookup 7).getD undef = _; rw [lookup_last (by decide) (by decide), l7]; rfl
      rw [hs3, hs4]
      clear hsv hs3 hs4 hst1 hst2 hb hR hn1 hn2 hb2 hW hmem l6 l7 m6 m7 r5 r6 R5 R6 CEL3
      generalize (((((((W6.setCell ⟨g5, 0, none⟩ (.int .i64 q.s.K)).setCell ⟨g5, 1, none⟩ (.int .i64 q.s.M)).setCell ⟨g5, 2, none⟩ (.int .i64 q.s.size)).setCell ⟨g6, 0, none⟩ (.slice A0 n0 c0)).setCell ⟨g6, 1, none⟩ (.slice A1 n1 c1)).setCell ⟨g6, 2, none⟩ (.slice A2 n2 c2)).setCell ⟨g6, 3, none⟩ (.int .i64 q.b.next)) = w9 at *
      have HSB := Lib.hid (show SB W0 [.int .i64 q.s.K, .int .i64 q.s.M, .int .i64 q.s.size] [.slice A0 n0 c0, .slice A1 n1 c1, .slice A2 n2 c2, .int .i64 q.b.next] g5 g6 w9 from ⟨RR5, RR6, HB1.out.trans (hB9.mono HB1.out.size)⟩)
      clear RR5 RR6 hB9 hne hne' hg5 hg6
      have HWB := Lib.hid (fun V (hV : Below W0.heap.size W0 V) => HBB.out V (HAL.out V hV))
      have hg5 := HSB.out.h5
      have hg6 := HSB.out.h6
      obtain ⟨hr5, hr6, _⟩ := HSB.out
      have k0 := (cell_of_row _ _ 0 _ _ _ hr5).trans (show _ = some (.int .i64 q.s.K : Value) from rfl)
      have k1 := (cell_of_row _ _ 1 _ _ _ hr5).trans (show _ = some (.int .i64 q.s.M : Value) from rfl)
      have k2 := (cell_of_row _ _ 2 _ _ _ hr5).trans (show _ = some (.int .i64 q.s.size : Value) from rfl)
      have z0 := (cell_of_row _ _ 0 _ _ _ hr6).trans (show _ = some (.slice A0 n0 c0 : Value) from rfl)
      have z1 := (cell_of_row _ _ 1 _ _ _ hr6).trans (show _ = some (.slice A1 n1 c1 : Value) from rfl)
      have z2 := (cell_of_row _ _ 2 _ _ _ hr6).trans (show _ = some (.slice A2 n2 c2 : Value) from rfl)
      have z3 := (cell_of_row _ _ 3 _ _ _ hr6).trans (show _ = some (.int .i64 q.b.next : Value) from rfl)
      clear hr5 hr6
      go_wp2_with fail
      refine (Round_c (s := q.s) (b := q.b) HSI.out HF.out (HWB.out _ HSB.out.below)).mono ?_
      clear k0 k1 k2 z0 z1 z2 z3
      rintro e w10 ⟨rfl, hb10⟩
      have HS10 := Lib.hid (HSB.out.all hb10); clear hb10 HSB hg5 hg6
      have HB10 := Lib.hid HS10.out.below
      by_cases hok : bookOk q.s q.b = true
      · obtain ⟨Nn, hNn⟩ : ∃ Nn : Nat, (n0 : Int) * (q.s.K + q.s.M) = (Nn : Int) := ⟨((n0 : Int) * (q.s.K + q.s.M)).toNat, by
          obtain ⟨k1, k2, m1, m2, _, _⟩ := shapeOk_K (bookOk_shape hok)
          exact (Int.toNat_of_nonneg (Int.mul_nonneg (by omega) (by omega))).symm⟩
        have hrr : roundR q.s q.b = ((Nn : Int), 0) := by unfold roundR; rw [if_pos hok, HL.out, hNn]
        rw [hrr]
        have HOK := Lib.hid hok
        have HNN := Lib.hid hNn
        clear hok hNn hrr
        go_wp2_with fail
        refine (num17_c (e := 0)).mono ?_
        rintro e w11 ⟨rfl, hb11⟩
        have HS11 := Lib.hid (HS10.out.all hb11); clear hb11 HS10 HB10
        have HB11 := Lib.hid HS11.out.below
        by_cases g1 : Nn = 0
        · subst g1
          go_wp2_with fail
          refine wakes17_c.mono ?_
          rintro e wz ⟨rfl, hbz⟩
          have HBZ := Lib.hid (HB11.out.trans (hbz.mono (HB11.out).size)); clear hbz
          go_wp2
          go_ret
          exact ⟨by trivial, HAL.out _ HBZ.out⟩
        · by_cases g2 : 300 < Nn
          · go_wp2_with fail
            refine wakes17_c.mono ?_
            rintro e wz ⟨rfl, hbz⟩
            have HBZ := Lib.hid (HB11.out.trans (hbz.mono (HB11.out).size)); clear hbz
            go_wp2
            go_ret
            exact ⟨by trivial, HAL.out _ HBZ.out⟩
          · have hN1 : 1 ≤ Nn := by omega
            have hN2 : Nn ≤ 300 := by omega
            obtain ⟨k, hk⟩ : ∃ k : Nat, q.s.K + q.s.M = (k : Int) := ⟨(q.s.K + q.s.M).toNat, by
              obtain ⟨k1, k2, m1, m2, _, _⟩ := shapeOk_K (bookOk_shape HOK.out)
              omega⟩
            have hk1 : 1 ≤ k ∧ k ≤ 14 := by
              obtain ⟨k1, k2, m1, m2, _, _⟩ := shapeOk_K (bookOk_shape HOK.out)
              omega
            have HK := Lib.hid hk
            have hNk : n0 * k = Nn := by
              have h1 := HNN.out
              rw [hk] at h1
              have h2 : ((n0 * k : Nat) : Int) = (Nn : Int) := by rw [Int.natCast_mul]; exact h1
              exact Int.ofNat.inj h2
            have hn00 : 0 < n0 := by
              rcases Nat.eq_zero_or_pos n0 with h | h
              · rw [h, Nat.zero_mul] at hNk; omega
              · exact h
            have HNK := Lib.hid hNk
            clear hk hNk
            have HIDS := Lib.hid (bookOk_ids HOK.out)
            have HSO := Lib.hid (stripesOk_ids (bookOk_stripes HOK.out))
            have hfr : fairR q.s q.b ⟨-1, -1⟩ (2 * (Nn : Int)) = (piecesX q.s q.b.stripes ⟨-1, -1⟩ (2 * Nn), 0) := by
              unfold fairR
              have hcu : cursorOk q.s ⟨-1, -1⟩ = true := by
                unfold cursorOk
                refine decide_eq_true ⟨by show (-1 : Int) ≤ -1; omega, by show (-1 : Int) ≤ _; omega, by show (-1 : Int) ≤ -1; omega, ?_⟩
                show (-1 : Int) ≤ _
                rw [HK.out]; omega
              rw [if_pos ⟨by rw [HOK.out, hcu]; rfl, by omega, by omega⟩, if_pos (by rw [HL.out]; exact hn00), show (2 * (Nn : Int)).toNat = 2 * Nn by omega]
            have HFR := Lib.hid hfr; clear hfr
            have HPL := Lib.hid (piecesX_len q.s q.b.stripes ⟨-1, -1⟩ (2 * Nn))
            obtain ⟨hr5, hr6, _⟩ := HS11.out
            have k0 := (cell_of_row _ _ 0 _ _ _ hr5).trans (show _ = some (.int .i64 q.s.K : Value) from rfl)
            have k1 := (cell_of_row _ _ 1 _ _ _ hr5).trans (show _ = some (.int .i64 q.s.M : Value) from rfl)
            have k2 := (cell_of_row _ _ 2 _ _ _ hr5).trans (show _ = some (.int .i64 q.s.size : Value) from rfl)
            have z0 := (cell_of_row _ _ 0 _ _ _ hr6).trans (show _ = some (.slice A0 n0 c0 : Value) from rfl)
            have z1 := (cell_of_row _ _ 1 _ _ _ hr6).trans (show _ = some (.slice A1 n1 c1 : Value) from rfl)
            have z2 := (cell_of_row _ _ 2 _ _ _ hr6).trans (show _ = some (.slice A2 n2 c2 : Value) from rfl)
            have z3 := (cell_of_row _ _ 3 _ _ _ hr6).trans (show _ = some (.int .i64 q.b.next : Value) from rfl)
            clear hr5 hr6
            go_wp2_with fail
            refine (Fair_c (s := q.s) (b := q.b) (c := ⟨-1, -1⟩) (m := 2 * (Nn : Int)) HSI.out HF.out (HWB.out _ HB11.out) (HSW.out _ (HAL.out _ HB11.out))).mono ?_
            clear k0 k1 k2 z0 z1 z2 z3
            rw [HFR.out]
            rintro e w12 ⟨AX, cX, rfl, hX, hb12⟩
            have HS12 := Lib.hid (HS11.out.all hb12); clear hb12 HS11 HB11
            rw [HPL.out] at hX ⊢
            have HX := Lib.hid hX; clear hX
            go_wp2_with fail
            refine (num17_c (e := 0)).mono ?_
            rintro e w13 ⟨rfl, hb13⟩
            have HS13 := Lib.hid (HS12.out.all hb13)
            have HX13 := Lib.hid (HX.out.all hb13); clear hb13 HS12 HX
            have h2N : ((2 * Nn : Nat) : Int) = 2 * (Nn : Int) := by omega
            go_wp2_with fail
            go_loopw [9] (fun iv wr => ∃ i : Nat, i ≤ Nn ∧ iv = .int .i64 i ∧ Hid (Below w13.heap.size w13 wr)) (fun iv _ => Nn - (intOf iv).toNat)
            case atStart => exact ⟨0, Nat.zero_le _, rfl, Lib.hid (Below.refl _ _)⟩
            case round =>
              rename World => wo
              obtain ⟨i, hi, rfl, HBo⟩ := hrel
              have HSo := Lib.hid (HS13.out.all HBo.out)
              have HXo := Lib.hid (HX13.out.all HBo.out)
              by_cases hlt : i < Nn
              · obtain ⟨bx, ox, ex, _, hbx, _, _, u0, u1, _⟩ := HXo.out.cursor_at (k := i) (by omega)
                obtain ⟨bx', ox', ex', _, _, _, _, v0, v1, _⟩ := HXo.out.cursor_at (k := i + Nn) (by omega)
                rw [ex] at ex'
                injection ex' with ex'; injection ex' with ex1 ex2 _; subst ex1; subst ex2
                subst ex
                rw [piecesX_at (by omega)] at u0 u1 v0 v1
                have hag : turnsC q.s q.b.stripes ⟨-1, -1⟩ (i + Nn + 1) = turnsC q.s q.b.stripes ⟨-1, -1⟩ (i + 1) := by
                  have := round_again HK.out hk1.1 (by rw [HL.out]; exact hn00) (fun j hj => (HIDS.out j hj).1) HSO.out i
                  rw [HL.out, HNK.out] at this
                  exact this
                rw [hag] at v0 v1
                have hcl := round_at HK.out hk1.1 (by rw [HL.out]; exact hn00) (fun j hj => (HIDS.out j hj).1) HSO.out i
                obtain ⟨x, hx⟩ : ∃ x, x = turnsC q.s q.b.stripes ⟨-1, -1⟩ (i + 1) := ⟨_, rfl⟩
                rw [← hx] at u0 u1 v0 v1 hcl
                have HXD := Lib.hid hx; clear hx hag
                obtain ⟨p, hp⟩ : ∃ p, p = i / k % q.b.stripes.length := ⟨_, rfl⟩
                have hpl : p < q.b.stripes.length := by rw [hp]; exact Nat.mod_lt _ (by rw [HL.out]; exact hn00)
                have hxs : x.stripe = (q.b.stripes.getD p default).id := by rw [hcl, hp]
                have hxi : x.index = ((i % k : Nat) : Int) := by rw [hcl]
                have hat : atX q.b.stripes x.stripe = (p : Int) := atX_at hpl hxs.symm (fun j hj => by rw [hxs]; have := HSO.out j p hj hpl; omega)
                have hik : i % k < k := Nat.mod_lt _ hk1.1
                have hnum : decide (0 ≤ x.index ∧ x.index ≤ (k : Int) - 1) = true := decide_eq_true ⟨by omega, by omega⟩
                have HAT := Lib.hid hat; clear hat hcl hp hxs
                have HNU := Lib.hid hnum; clear hnum hxi
                have hg5 := HSo.out.h5
                have hg6 := HSo.out.h6
                have HCA := Lib.hid (fun V (hV : Below wo.heap.size wo V) => At_c (w := V) (x := x.stripe) ((HWB.out V ((HSo.out.all hV).below)).st))
                have HCN := Lib.hid (fun V : World => Num_c (w := V) (n := x.index) (m := (k : Int) - 1))
                obtain ⟨hr5, hr6, _⟩ := HSo.out
                have k0 := (cell_of_row _ _ 0 _ _ _ hr5).trans (show _ = some (.int .i64 q.s.K : Value) from rfl)
                have k1 := (cell_of_row _ _ 1 _ _ _ hr5).trans (show _ = some (.int .i64 q.s.M : Value) from rfl)
                have k2 := (cell_of_row _ _ 2 _ _ _ hr5).trans (show _ = some (.int .i64 q.s.size : Value) from rfl)
                have z0 := (cell_of_row _ _ 0 _ _ _ hr6).trans (show _ = some (.slice A0 n0 c0 : Value) from rfl)
                have z1 := (cell_of_row _ _ 1 _ _ _ hr6).trans (show _ = some (.slice A1 n1 c1 : Value) from rfl)
                have z2 := (cell_of_row _ _ 2 _ _ _ hr6).trans (show _ = some (.slice A2 n2 c2 : Value) from rfl)
                have z3 := (cell_of_row _ _ 3 _ _ _ hr6).trans (show _ = some (.int .i64 q.b.next : Value) from rfl)
                clear hr5 hr6
                have hqx : ∀ V : World, (Op.equalIn 10000 44 (.agg #[.int .i64 x.stripe, .int .i64 x.index]) (.agg #[.int .i64 x.stripe, .int .i64 x.index])).run Try.prog V = .ok true V := fun V => (eqv_Cursor x x V).trans (by rw [decide_eq_true rfl])
                have hqg := eqg_Cursor
                have hp0 : ¬ (p : Int) < 0 := by omega
                obtain ⟨hK1, hK2, hM1, hM2, _, _⟩ := shapeOk_K (bookOk_shape HOK.out)
                rw [HAT.out] at HCA
                rw [HNU.out] at HCN
                go_wp2_with fail
                have hext := cell_ext wo
                refine region_ext (by kernel_rfl) (by kernel_rfl) ?_
                repeat (go_big_quiet_step (first | (go_at_call 24; exact RetV.ext (HCA.out _ (below_ext _ _))) | (go_at_call 21; rw [HK.out]; exact RetV.ext (HCN.out _))))
                rw [decide_eq_false (show ¬ (p : Int) < 0 by omega)]
                repeat (go_big_quiet_step (first | (go_at_call 24; exact RetV.ext (HCA.out _ (below_ext _ _))) | (go_at_call 21; rw [HK.out]; exact RetV.ext (HCN.out _))))
                refine wpQuiet_nil ?_
                rintro _ ⟨X, rfl⟩
                have HB3 := Lib.hid (HBo.out.trans ((below_ext wo X).mono HBo.out.size))
                clear hext u0 u1 v0 v1 k0 k1 k2 z0 z1 z2 z3 hqx hqg HCA HCN HAT HNU HSo HXo HBo hp0
                generalize wo.ext X = wr at *
                go_wp2_with fail
                go_loopw [10] (fun jv wr' => ∃ j : Nat, j ≤ i ∧ jv = .int .i64 j ∧ Hid (Below w13.heap.size w13 wr')) (fun jv _ => i - (intOf jv).toNat)
                case atStart => exact ⟨0, Nat.zero_le _, rfl, HB3⟩
                case round =>
                  rename World => wj
                  obtain ⟨j, hj, rfl, HBj⟩ := hrel
                  by_cases hji : j < i
                  · obtain ⟨bx', ox', ex', _, hbx', _, _, u0, u1, _⟩ := (HX13.out.all HBj.out).cursor_at (k := i) (by omega)
                    injection ex' with ex'; injection ex' with ex1 ex2 _; subst ex1; subst ex2
                    obtain ⟨bx', ox', ex', _, _, _, _, v0, v1, _⟩ := (HX13.out.all HBj.out).cursor_at (k := j) (by omega)
                    injection ex' with ex'; injection ex' with ex1 ex2 _; subst ex1; subst ex2
                    rw [piecesX_at (by omega)] at u0 u1 v0 v1
                    rw [← HXD.out] at u0 u1
                    obtain ⟨y, hy⟩ : ∃ y, y = turnsC q.s q.b.stripes ⟨-1, -1⟩ (j + 1) := ⟨_, rfl⟩
                    rw [← hy] at v0 v1
                    have hyx : y ≠ x := by
                      rw [hy, HXD.out]
                      exact round_unlike HK.out hk1.1 (by rw [HL.out]; exact hn00) (fun j hj => (HIDS.out j hj).1) HSO.out hji (by rw [HL.out, HNK.out]; exact hlt)
                    have hq : ∀ V : World, (Op.equalIn 10000 44 (.agg #[.int .i64 y.stripe, .int .i64 y.index]) (.agg #[.int .i64 x.stripe, .int .i64 x.index])).run Try.prog V = .ok false V := fun V => (eqv_Cursor y x V).trans (by rw [decide_eq_false hyx])
                    have hqg := eqg_Cursor
                    clear hy hyx
                    have HBR := Lib.hid (fun V (hV : Below wj.heap.size wj V) => HBj.out.trans (hV.mono HBj.out.size))
                    go_wp2
                    go_quiet (fail)
                    go_wp2
                    exact ⟨⟨j + 1, by omega, by go_num, Lib.hid (HBR.out _ (by first | exact below_drewN (Below.refl _ _) _ | exact Below.refl _ _))⟩, by simp [intOf]; omega⟩
                  · obtain rfl : i = j := by omega
                    go_wp2
                    exact ⟨⟨i + 1, by omega, by go_num, HBj⟩, by simp [intOf]; omega⟩
              · go_wp2_with fail
                refine wakes17_c.mono ?_
                rintro ez wz ⟨rfl, hbz⟩
                have HBZ := Lib.hid (HSo.out.below.trans (hbz.mono HSo.out.below.size)); clear hbz
                go_wp2
                go_ret
                exact ⟨by trivial, HAL.out _ HBZ.out⟩
      · have hrr : roundR q.s q.b = (0, 1) := by unfold roundR; rw [if_neg hok]
        rw [hrr]
        clear hok hrr
        go_wp2_with fail
        refine (num17_c (e := 1)).mono ?_
        rintro e w11 ⟨rfl, hb11⟩
        have HB11 := Lib.hid (HB10.out.trans (hb11.mono HB10.out.size)); clear hb11 HB10 HS10
        go_wp2_with fail
        refine wakes17_c.mono ?_
        rintro e wz ⟨rfl, hbz⟩
        have HBZ := Lib.hid (HB11.out.trans (hbz.mono (HB11.out).size)); clear hbz
        go_wp2
        go_ret
        exact ⟨by trivial, HAL.out _ HBZ.out⟩
end Go.Proofs.Ytjeecdoffoahkaa
