/- silolaw17.RotaNext: which piece is next, how many a round has, and so many of them. Printed by gen_m5.py. -/
import Derived.Test.YtjeecdoffoahkaaN8r
import Derived.Test.YtjeecdoffoahkaaN9r
import Derived.Test.YtjeecdoffoahkaaE8r
import Derived.Test.YtjeecdoffoahkaaM6r
import Derived.Test.YtjeecdoffoahkaaQ11r
import Derived.Deep.CutBlock
import Derived.Deep.Cut
import Derived.Deep.Light
namespace Go.Proofs.Ytjeecdoffoahkaa
open Go.RowKit Go.Silo
theorem lt_toNat' {j : Nat} {n : Int} (h : (j : Int) < n) : j + 1 ≤ n.toNat := by omega
theorem le_big {j : Nat} {n : Int} (h : j ≤ n.toNat) (hn : n ≤ 2000) : j ≤ 9223372036854775807 := by omega
theorem le_big16 {j : Nat} {n : Int} (h : j ≤ n.toNat) (hn : n ≤ 2000) : j * 16 ≤ 140737488355328 := by omega
theorem eq_toNat' {j : Nat} {n : Int} (h : ¬ (j : Int) < n) (hj : j ≤ n.toNat) : j = n.toNat := by omega

set_option maxRecDepth 100000 in
set_option maxHeartbeats 16000000 in
theorem RotaNext_c {tg : Bool} {S : Nat → Prop} {w : World} {A0 A1 A2 A3 A4 : Option Addr} {n0 c0 n1 c1 n2 c2 n3 c3 n4 c4 : Nat} {A5 : Option Addr} {n5 c5 : Nat} {q : ScriptD} {cs : List Cursor} {m : Int} (hm : I64 m) (hB : ScriptDB q) (hsi : I64 q.s.K ∧ I64 q.s.M ∧ I64 q.s.size) (hb : BookR w S tg tg tg tg A0 n0 c0 A1 n1 c1 A2 n2 c2 q.b) (hS : ∀ k, S k → k < w.heap.size) (hl : Sl tg 183 (recordE tg) w S A3 n3 c3 q.l) (hv : Sl tg 4 boolE w S A4 n4 c4 q.live) (hc : Sl tg 44 cursorE w S A5 n5 c5 cs) :
    Calls Try.prog 3 #[.agg #[.int .i64 q.s.K, .int .i64 q.s.M, .int .i64 q.s.size, .slice A0 n0 c0, .slice A1 n1 c1, .slice A2 n2 c2, .int .i64 q.b.next, .slice A3 n3 c3, .slice A4 n4 c4, .int .i64 q.n, .slice A5 n5 c5, .int .i64 m]] w (RetV (.bool true) w) := by
  have HMI := Lib.hid hm; clear hm
  have HHH := Lib.hid (fun W (hW : Below w.heap.size w W) => Heavy17_c (w := W) (m := m) hB (hb.all hW) (hl.all hW) (hv.all hW) (hc.all hW))
  have HBB := Lib.hid (fun W (hW : Below w.heap.size w W) => hb.all hW)
  have HCC := Lib.hid (fun W (hW : Below w.heap.size w W) => hc.all hW)
  have HSI := Lib.hid hsi
  have HSW := Lib.hid (fun W (hW : Below w.heap.size w W) => (fun k hk => Nat.lt_of_lt_of_le (hS k hk) hW.size : ∀ k, S k → k < W.heap.size))
  have HL := Lib.hid hb.st.len
  have HLC := Lib.hid hc.len
  clear hB hb hl hv hc hS hsi
  have hal : Below w.heap.size w (w.alloc (.cells #[.int .i64 q.s.K, .int .i64 q.s.M, .int .i64 q.s.size, .slice A0 n0 c0, .slice A1 n1 c1, .slice A2 n2 c2, .int .i64 q.b.next, .slice A3 n3 c3, .slice A4 n4 c4, .int .i64 q.n, .slice A5 n5 c5, .int .i64 m] 35)) := (by repeat' (first | (with_reducible exact Below.refl _ _) | (with_reducible refine Below.alloc ?_ ?_ _) | (with_reducible refine Below.drew ?_) | (with_reducible refine below_drewN ?_ _) | (with_reducible refine Below.setCell ?_ ?_ _) | (refine via ?_ (by with_reducible assumption) ?_) | (refine via ?_ (below_ext _ _) ?_) | go_size))
  have hr0 : (w.alloc (.cells #[.int .i64 q.s.K, .int .i64 q.s.M, .int .i64 q.s.size, .slice A0 n0 c0, .slice A1 n1 c1, .slice A2 n2 c2, .int .i64 q.b.next, .slice A3 n3 c3, .slice A4 n4 c4, .int .i64 q.n, .slice A5 n5 c5, .int .i64 m] 35)).heap[w.heap.size]? = some (.cells #[.int .i64 q.s.K, .int .i64 q.s.M, .int .i64 q.s.size, .slice A0 n0 c0, .slice A1 n1 c1, .slice A2 n2 c2, .int .i64 q.b.next, .slice A3 n3 c3, .slice A4 n4 c4, .int .i64 q.n, .slice A5 n5 c5, .int .i64 m] 35 (0, 0)) := by
    have := heap_alloc_new w (.cells #[.int .i64 q.s.K, .int .i64 q.s.M, .int .i64 q.s.size, .slice A0 n0 c0, .slice A1 n1 c1, .slice A2 n2 c2, .int .i64 q.b.next, .slice A3 n3 c3, .slice A4 n4 c4, .int .i64 q.n, .slice A5 n5 c5, .int .i64 m] 35)
    simpa only [World.size_alloc] using this
  have hz : w.heap.size < (w.alloc (.cells #[.int .i64 q.s.K, .int .i64 q.s.M, .int .i64 q.s.size, .slice A0 n0 c0, .slice A1 n1 c1, .slice A2 n2 c2, .int .i64 q.b.next, .slice A3 n3 c3, .slice A4 n4 c4, .int .i64 q.n, .slice A5 n5 c5, .int .i64 m] 35)).heap.size := by simp
  go_enter Try.func3, Try.ntmps3
  go_upto_region 1 with (fail)
  generalize (w.alloc (.cells #[.int .i64 q.s.K, .int .i64 q.s.M, .int .i64 q.s.size, .slice A0 n0 c0, .slice A1 n1 c1, .slice A2 n2 c2, .int .i64 q.b.next, .slice A3 n3 c3, .slice A4 n4 c4, .int .i64 q.n, .slice A5 n5 c5, .int .i64 m] 35)) = W0 at *
  have HAL := Lib.hid (fun V (hV : Below W0.heap.size W0 V) => hal.trans (hV.mono hal.size)); clear hal
  have ROW := Lib.hid (fun V (hV : Below W0.heap.size W0 V) => (show V.heap[w.heap.size]? = some (.cells #[.int .i64 q.s.K, .int .i64 q.s.M, .int .i64 q.s.size, .slice A0 n0 c0, .slice A1 n1 c1, .slice A2 n2 c2, .int .i64 q.b.next, .slice A3 n3 c3, .slice A4 n4 c4, .int .i64 q.n, .slice A5 n5 c5, .int .i64 m] 35 (0, 0)) from (hV.block _ (by omega)).trans hr0))
  clear hr0
  have r0 := ROW.out W0 (Below.refl _ _)
  have b00 := (cell_of_row _ _ 0 _ _ _ r0).trans (show _ = some (.int .i64 q.s.K : Value) from rfl)
  have b01 := (cell_of_row _ _ 1 _ _ _ r0).trans (show _ = some (.int .i64 q.s.M : Value) from rfl)
  have b02 := (cell_of_row _ _ 2 _ _ _ r0).trans (show _ = some (.int .i64 q.s.size : Value) from rfl)
  have b03 := (cell_of_row _ _ 3 _ _ _ r0).trans (show _ = some (.slice _ n0 c0 : Value) from rfl)
  have b04 := (cell_of_row _ _ 4 _ _ _ r0).trans (show _ = some (.slice _ n1 c1 : Value) from rfl)
  have b05 := (cell_of_row _ _ 5 _ _ _ r0).trans (show _ = some (.slice _ n2 c2 : Value) from rfl)
  have b06 := (cell_of_row _ _ 6 _ _ _ r0).trans (show _ = some (.int .i64 q.b.next : Value) from rfl)
  have b07 := (cell_of_row _ _ 7 _ _ _ r0).trans (show _ = some (.slice _ n3 c3 : Value) from rfl)
  have b08 := (cell_of_row _ _ 8 _ _ _ r0).trans (show _ = some (.slice _ n4 c4 : Value) from rfl)
  have b09 := (cell_of_row _ _ 9 _ _ _ r0).trans (show _ = some (.int .i64 q.n : Value) from rfl)
  have b010 := (cell_of_row _ _ 10 _ _ _ r0).trans (show _ = some (.slice _ n5 c5 : Value) from rfl)
  have b011 := (cell_of_row _ _ 11 _ _ _ r0).trans (show _ = some (.int .i64 m : Value) from rfl)
  clear r0
  go_wp2_with fail
  refine (HHH.out _ (HAL.out _ (Below.refl _ _))).mono ?_
  clear b00 b01 b02 b03 b04 b05 b06 b07 b08 b09 b010 b011
  rintro e w1 ⟨v1, rfl, hb1, hv1⟩
  have HB1 := Lib.hid hb1; clear hb1 HHH
  cases v1 with
  | true =>
    go_wp2
    go_ret
    exact ⟨by trivial, HAL.out _ HB1.out⟩
  | false =>
    have HF := Lib.hid (hv1 rfl).1.few
    have HCL := Lib.hid (hv1 rfl).2
    have HLI := Lib.hid (hv1 rfl).1; clear hv1
    have hn0 : n0 ≤ 2500 := by have := HLI.out.bk; have := HL.out; omega
    have hzi := Nat.lt_of_lt_of_le hz HB1.out.size
    have CEL3 : Hid (∀ us w6, WdT w1 w1.heap.size (R3 w1) (fun _ => True) 8 9 (st31 (.int .i64 q.s.K) (.int .i64 q.s.M) (.int .i64 q.s.size)) (st32 (.slice A0 n0 c0) (.slice A1 n1 c1) (.slice A2 n2 c2) (.int .i64 q.b.next)) us w6 → w6.heap[w.heap.size]? = some (.cells #[.int .i64 q.s.K, .int .i64 q.s.M, .int .i64 q.s.size, .slice A0 n0 c0, .slice A1 n1 c1, .slice A2 n2 c2, .int .i64 q.b.next, .slice A3 n3 c3, .slice A4 n4 c4, .int .i64 q.n, .slice A5 n5 c5, .int .i64 m] 35 (0, 0))) := Lib.hid (fun us w6 hW => ((hW.below (Nat.le_refl _)).block _ hzi).trans (ROW.out w1 HB1.out))
    go_wp2_with fail
    refine region_free (by kernel_rfl) (by kernel_rfl) 203 rfl [28, 29, 30, 31, 32, 33, 3, 4] [6, 7, 8, 9] [(3, 6), (4, 7)]
      [(28, [], fun _ => .pointer (some ⟨w.heap.size, 0, none⟩)), (29, [], fun _ => .pointer (some ⟨w.heap.size, 0, none⟩)), (30, [], fun _ => .agg #[.int .i64 q.s.K, .int .i64 q.s.M, .int .i64 q.s.size]), (31, [], fun _ => .pointer (some ⟨w.heap.size, 0, none⟩)), (32, [], fun _ => .pointer (some ⟨w.heap.size, 3, none⟩)), (33, [], fun _ => .agg #[.slice A0 n0 c0, .slice A1 n1 c1, .slice A2 n2 c2, .int .i64 q.b.next])]
      [[], [], [], [], [], [], [8], [8]] [[], [], [], [], [], [], [], [], [6, 7], [6, 7, 8]] [[], [28], [29], [], [31], [32], [], [], [3, 30], [4, 33]]
      (WdT w1 w1.heap.size (R3 w1) (fun _ => True) 8 9 (st31 (.int .i64 q.s.K) (.int .i64 q.s.M) (.int .i64 q.s.size)) (st32 (.slice A0 n0 c0) (.slice A1 n1 c1) (.slice A2 n2 c2) (.int .i64 q.b.next))) (by kernel_rfl) .init ⟨?_, ?_, ?_, ?_, ?_, ?_, ?_, ?_, ?_, ?_, trivial⟩ ?_
    -- FAST10 cdot
    · (refine OpH.rd rfl rfl (fun ρ us w6 ho ht hc hl hsrc hW => ?_); have e1 := (ho 1 rfl).trans (show _ = (.pointer (some ⟨w.heap.size, 0, none⟩) : Value) from rfl); clear ht ho; simp only [execOp, e1]; go_simp; try rfl)
    · (refine OpH.rd rfl rfl (fun ρ us w6 ho ht hc hl hsrc hW => ?_); have e28 := (ht 28 (by decide)).trans (show _ = (.pointer (some ⟨w.heap.size, 0, none⟩) : Value) from rfl); clear ht ho; simp only [execOp, e28]; go_simp; try rfl)
    · (refine OpH.rd rfl rfl (fun ρ us w6 ho ht hc hl hsrc hW => ?_); have e29 := (ht 29 (by decide)).trans (show _ = (.pointer (some ⟨w.heap.size, 0, none⟩) : Value) from rfl); have rr := CEL3.out us w6 hW; have x0 := cell_of_row _ _ 0 _ _ _ rr; have x1 := cell_of_row _ _ 1 _ _ _ rr; have x2 := cell_of_row _ _ 2 _ _ _ rr; have x3 := cell_of_row _ _ 3 _ _ _ rr; have x4 := cell_of_row _ _ 4 _ _ _ rr; have x5 := cell_of_row _ _ 5 _ _ _ rr; have x6 := cell_of_row _ _ 6 _ _ _ rr; clear rr; clear ht ho; simp only [execOp, e29]; go_simp; try rfl)
    · (refine OpH.rd rfl rfl (fun ρ us w6 ho ht hc hl hsrc hW => ?_); have e1 := (ho 1 rfl).trans (show _ = (.pointer (some ⟨w.heap.size, 0, none⟩) : Value) from rfl); clear ht ho; simp only [execOp, e1]; go_simp; try rfl)
    · (refine OpH.rd rfl rfl (fun ρ us w6 ho ht hc hl hsrc hW => ?_); have e31 := (ht 31 (by decide)).trans (show _ = (.pointer (some ⟨w.heap.size, 0, none⟩) : Value) from rfl); clear ht ho; simp only [execOp, e31]; go_simp; try rfl)
    · (refine OpH.rd rfl rfl (fun ρ us w6 ho ht hc hl hsrc hW => ?_); have e32 := (ht 32 (by decide)).trans (show _ = (.pointer (some ⟨w.heap.size, 3, none⟩) : Value) from rfl); have rr := CEL3.out us w6 hW; have x0 := cell_of_row _ _ 0 _ _ _ rr; have x1 := cell_of_row _ _ 1 _ _ _ rr; have x2 := cell_of_row _ _ 2 _ _ _ rr; have x3 := cell_of_row _ _ 3 _ _ _ rr; have x4 := cell_of_row _ _ 4 _ _ _ rr; have x5 := cell_of_row _ _ 5 _ _ _ rr; have x6 := cell_of_row _ _ 6 _ _ _ rr; clear rr; clear ht ho; simp only [execOp, e32]; go_simp; try rfl)
    · refine OpH.wr rfl (fun Z us w6 ho ht hni hlim hreq hW K hK => ?_)
      have hdone := hW.snoc (i := 6) (x := .pointer (some ⟨w6.heap.size, 0, none⟩)) (by decide) (by decide) (hlim 8 (by decide)) ((Below.refl _ _).alloc (Nat.le_refl _) (.cells #[.int .i64 0, .int .i64 0, .int .i64 0] 23)) (fun j v h => R3.all ((Below.refl _ _).alloc (Nat.le_refl _) _) j v h) ⟨(fun _ => ⟨_, rfl, (hW.below (Nat.le_refl _)).size, heap_alloc_new _ _⟩), (fun h => absurd h (by decide))⟩
      have HDN := Lib.hid hdone; clear hdone hW hni hlim hreq ho ht
      rw [if_pos (by simp [Region.wanted])]
      unfold Oper.wp
      generalize Z.eval = ρ at *
      simp only [execOp]
      go_simp
      exact hK _ _ HDN.out
    · refine OpH.wr rfl (fun Z us w6 ho ht hni hlim hreq hW K hK => ?_)
      have hdone := hW.snoc (i := 7) (x := .pointer (some ⟨w6.heap.size, 0, none⟩)) (by decide) (by decide) (hlim 8 (by decide)) ((Below.refl _ _).alloc (Nat.le_refl _) (.cells #[.slice none 0 0, .slice none 0 0, .slice none 0 0, .int .i64 0] 28)) (fun j v h => R3.all ((Below.refl _ _).alloc (Nat.le_refl _) _) j v h) ⟨(fun h => absurd h (by decide)), (fun _ => ⟨_, rfl, (hW.below (Nat.le_refl _)).size, heap_alloc_new _ _⟩)⟩
      have HDN := Lib.hid hdone; clear hdone hW hni hlim hreq ho ht
      rw [if_pos (by simp [Region.wanted])]
      unfold Oper.wp
      generalize Z.eval = ρ at *
      simp only [execOp]
      go_simp
      exact hK _ _ HDN.out
    · refine OpH.wr rfl (fun Z us w6 ho ht hni hlim hreq hW K hK => ?_)
      obtain ⟨g, ev, hg, hr⟩ := (hW.at_ hni (hreq 6 (by decide))).1 rfl
      have e3 := ((ht 3 (by decide)).trans (show _ = (us.lookup 6).getD undef from rfl)).trans ev
      have es := (ht 30 (by decide)).trans (show _ = (.agg #[.int .i64 q.s.K, .int .i64 q.s.M, .int .i64 q.s.size] : Value) from rfl)
      have hst : st31 (.int .i64 q.s.K) (.int .i64 q.s.M) (.int .i64 q.s.size) us w6 = (((w6.setCell ⟨g, 0, none⟩ (.int .i64 q.s.K)).setCell ⟨g, 1, none⟩ (.int .i64 q.s.M)).setCell ⟨g, 2, none⟩ (.int .i64 q.s.size)) := by unfold st31; rw [ev]; rfl
      have hdone := hW.store1 hni (x := undef) trivial (by rw [hst]; exact (((hW.below (Nat.le_refl _)).setCell hg _).setCell hg _).setCell hg _)
      rw [hst] at hdone
      have f0 := (cell_of_row w6 g 0 _ _ _ hr).trans (show _ = some (Value.int .i64 0) from rfl)
      have fz0 := frozen_of_row w6 g 0 _ _ hr
      have f1 := (cell_of_row w6 g 1 _ _ _ hr).trans (show _ = some (Value.int .i64 0) from rfl)
      have fz1 := frozen_of_row w6 g 1 _ _ hr
      have f2 := (cell_of_row w6 g 2 _ _ _ hr).trans (show _ = some (Value.int .i64 0) from rfl)
      have fz2 := frozen_of_row w6 g 2 _ _ hr
      have HDN := Lib.hid hdone; clear hdone hW hni hlim hreq ho ht hst hr ev
      rw [if_pos (by simp [Region.wanted])]
      unfold Oper.wp
      generalize Z.eval = ρ at *
      simp only [execOp, e3, es]
      go_simp
      exact hK undef _ HDN.out
    · refine OpH.wr rfl (fun Z us w6 ho ht hni hlim hreq hW K hK => ?_)
      have q6 := hreq 6 (by decide)
      have q7 := hreq 7 (by decide)
      obtain ⟨us0, W6, x0, rfl, rfl, hb, hR, hn1, hn2, _, hb1⟩ := hW.mid (hreq 8 (by decide)) hni
      obtain ⟨v6, l6, m6⟩ := lookup_mem (before_mid q6 (by decide))
      obtain ⟨v7, l7, m7⟩ := lookup_mem (before_mid q7 (by decide))
      obtain ⟨g5, rfl, hg5, r5⟩ := (hR 6 v6 m6).1 rfl
      obtain ⟨g6, rfl, hg6, r6⟩ := (hR 7 v7 m7).2 rfl
      have hne : g6 ≠ g5 := fun e => by rw [e, r5] at r6; cases r6
      have e4 := ((ht 4 (by decide)).trans (show _ = ((us0 ++ [(8, x0)]).lookup 7).getD undef from rfl)).trans (show _ = (.pointer (some ⟨g6, 0, none⟩) : Value) by rw [lookup_mid (by decide), l7]; rfl)
      have es := (ht 33 (by decide)).trans (show _ = (.agg #[.slice A0 n0 c0, .slice A1 n1 c1, .slice A2 n2 c2, .int .i64 q.b.next] : Value) from rfl)
      have r6' : (st31 (.int .i64 q.s.K) (.int .i64 q.s.M) (.int .i64 q.s.size) us0 W6).heap[g6]? = some (.cells #[.slice none 0 0, .slice none 0 0, .slice none 0 0, .int .i64 0] 28 (0, 0)) := by
        unfold st31
        rw [l6]
        show (((W6.setCell ⟨g5, 0, none⟩ _).setCell ⟨g5, 1, none⟩ _).setCell ⟨g5, 2, none⟩ _).heap[g6]? = _
        rw [Below.heap_setCell _ _ _ _ hne, Below.heap_setCell _ _ _ _ hne, Below.heap_setCell _ _ _ _ hne]; exact r6
      have hst : ∀ W, st32 (.slice A0 n0 c0) (.slice A1 n1 c1) (.slice A2 n2 c2) (.int .i64 q.b.next) us0 W = ((((W.setCell ⟨g6, 0, none⟩ (.slice A0 n0 c0)).setCell ⟨g6, 1, none⟩ (.slice A1 n1 c1)).setCell ⟨g6, 2, none⟩ (.slice A2 n2 c2)).setCell ⟨g6, 3, none⟩ (.int .i64 q.b.next)) := fun W => by unfold st32; rw [l7]; rfl
      have hdone := WdT.two (V := w1) (m := w1.heap.size) (R := R3 w1) (Pre := fun _ => True) (st1 := (st31 (.int .i64 q.s.K) (.int .i64 q.s.M) (.int .i64 q.s.size))) (st2 := (st32 (.slice A0 n0 c0) (.slice A1 n1 c1) (.slice A2 n2 c2) (.int .i64 q.b.next))) (x := x0) (x' := undef) hb hR hn1 hn2 trivial (by rw [hst]; exact (((hb1.setCell hg6 _).setCell hg6 _).setCell hg6 _).setCell hg6 _)
      rw [hst] at hdone
      have HDN := Lib.hid hdone; clear hdone hst hb hR hn1 hn2 hb1 hW hni hlim hreq ho ht q6 q7 l6 l7 m6 m7 r5 r6
      generalize st31 (.int .i64 q.s.K) (.int .i64 q.s.M) (.int .i64 q.s.size) us0 W6 = W7 at *
      have f0 := (cell_of_row W7 g6 0 _ _ _ r6').trans (show _ = some (Value.slice none 0 0) from rfl)
      have fz0 := frozen_of_row W7 g6 0 _ _ r6'
      have f1 := (cell_of_row W7 g6 1 _ _ _ r6').trans (show _ = some (Value.slice none 0 0) from rfl)
      have fz1 := frozen_of_row W7 g6 1 _ _ r6'
      have f2 := (cell_of_row W7 g6 2 _ _ _ r6').trans (show _ = some (Value.slice none 0 0) from rfl)
      have fz2 := frozen_of_row W7 g6 2 _ _ r6'
      have f3 := (cell_of_row W7 g6 3 _ _ _ r6').trans (show _ = some (Value.int .i64 0) from rfl)
      have fz3 := frozen_of_row W7 g6 3 _ _ r6'
      clear r6'
      rw [if_pos (by simp [Region.wanted])]
      unfold Oper.wp
      generalize Z.eval = ρ at *
      simp only [execOp, e4, es]
      go_simp
      exact hK undef _ HDN.out
    -- TSAF
    · intro us w9 hmem hW
      have hB9 := hW.below (Nat.le_refl _)
      obtain ⟨us0, W6, x0, x1, rfl, rfl, hb, hR, hn1, hn2, _, hb2⟩ := hW.last (hmem 9 (by decide)) (by decide)
      obtain ⟨v6, l6, m6⟩ := lookup_mem (before_last (hmem 6 (by decide)) (by decide) (by decide))
      obtain ⟨v7, l7, m7⟩ := lookup_mem (before_last (hmem 7 (by decide)) (by decide) (by decide))
      obtain ⟨g5, rfl, hg5, r5⟩ := (hR 6 v6 m6).1 rfl
      obtain ⟨g6, rfl, hg6, r6⟩ := (hR 7 v7 m7).2 rfl
      have hne : g6 ≠ g5 := fun e => by rw [e, r5] at r6; cases r6
      have hst1 : st31 (.int .i64 q.s.K) (.int .i64 q.s.M) (.int .i64 q.s.size) us0 W6 = (((W6.setCell ⟨g5, 0, none⟩ (.int .i64 q.s.K)).setCell ⟨g5, 1, none⟩ (.int .i64 q.s.M)).setCell ⟨g5, 2, none⟩ (.int .i64 q.s.size)) := by unfold st31; rw [l6]; rfl
      have hst2 : ∀ W, st32 (.slice A0 n0 c0) (.slice A1 n1 c1) (.slice A2 n2 c2) (.int .i64 q.b.next) us0 W = ((((W.setCell ⟨g6, 0, none⟩ (.slice A0 n0 c0)).setCell ⟨g6, 1, none⟩ (.slice A1 n1 c1)).setCell ⟨g6, 2, none⟩ (.slice A2 n2 c2)).setCell ⟨g6, 3, none⟩ (.int .i64 q.b.next)) := fun W => by unfold st32; rw [l7]; rfl
      rw [hst2, hst1] at hB9 ⊢
      have R5 := row_set3 (u := .int .i64 q.s.K) (v := .int .i64 q.s.M) (z := .int .i64 q.s.size) r5
      have R6 : (((W6.setCell ⟨g5, 0, none⟩ (.int .i64 q.s.K)).setCell ⟨g5, 1, none⟩ (.int .i64 q.s.M)).setCell ⟨g5, 2, none⟩ (.int .i64 q.s.size)).heap[g6]? = _ := (Below.heap_setCell _ _ _ _ hne).trans ((Below.heap_setCell _ _ _ _ hne).trans ((Below.heap_setCell _ _ _ _ hne).trans r6))
      have RR6 := row_set4 (u := .slice A0 n0 c0) (v := .slice A1 n1 c1) (z := .slice A2 n2 c2) (y := .int .i64 q.b.next) R6
      have hne' := Ne.symm hne
      have RR5 : (((((((W6.setCell ⟨g5, 0, none⟩ (.int .i64 q.s.K)).setCell ⟨g5, 1, none⟩ (.int .i64 q.s.M)).setCell ⟨g5, 2, none⟩ (.int .i64 q.s.size)).setCell ⟨g6, 0, none⟩ (.slice A0 n0 c0)).setCell ⟨g6, 1, none⟩ (.slice A1 n1 c1)).setCell ⟨g6, 2, none⟩ (.slice A2 n2 c2)).setCell ⟨g6, 3, none⟩ (.int .i64 q.b.next)).heap[g5]? = _ := (Below.heap_setCell _ _ _ _ hne').trans ((Below.heap_setCell _ _ _ _ hne').trans ((Below.heap_setCell _ _ _ _ hne').trans ((Below.heap_setCell _ _ _ _ hne').trans R5)))
      simp only [putAll, List.map_cons, List.map_nil, List.foldl_cons, List.foldl_nil, Act.put, List.setIfInBounds_toArray, List.set_cons_succ, List.set_cons_zero]
      generalize hsv : slotAt _ _ _ = sv
      have hs3 : sv 3 = .pointer (some ⟨g5, 0, none⟩) := by rw [← hsv]; show ((us0 ++ [(8, x0)] ++ [(9, x1)]).lookup 6).getD undef = _; rw [lookup_last (by decide) (by decide), l6]; rfl
      have hs4 : sv 4 = .pointer (some ⟨g6, 0, none⟩) := by rw [← hsv]; show ((us0 ++ [(8, x0)] ++ [(9, x1)]).lookup 7).getD undef = _; rw [lookup_last (by decide) (by decide), l7]; rfl
      rw [hs3, hs4]
      clear hsv hs3 hs4 hst1 hst2 hb hR hn1 hn2 hb2 hW hmem l6 l7 m6 m7 r5 r6 R5 R6 CEL3
      generalize (((((((W6.setCell ⟨g5, 0, none⟩ (.int .i64 q.s.K)).setCell ⟨g5, 1, none⟩ (.int .i64 q.s.M)).setCell ⟨g5, 2, none⟩ (.int .i64 q.s.size)).setCell ⟨g6, 0, none⟩ (.slice A0 n0 c0)).setCell ⟨g6, 1, none⟩ (.slice A1 n1 c1)).setCell ⟨g6, 2, none⟩ (.slice A2 n2 c2)).setCell ⟨g6, 3, none⟩ (.int .i64 q.b.next)) = w9 at *
      have HSB := Lib.hid (show SB W0 [.int .i64 q.s.K, .int .i64 q.s.M, .int .i64 q.s.size] [.slice A0 n0 c0, .slice A1 n1 c1, .slice A2 n2 c2, .int .i64 q.b.next] g5 g6 w9 from ⟨RR5, RR6, HB1.out.trans (hB9.mono HB1.out.size)⟩)
      clear RR5 RR6 hB9 hne hne' hg5 hg6
      have HWB := Lib.hid (fun V (hV : Below W0.heap.size W0 V) => HBB.out V (HAL.out V hV))
      go_upto_region 4 with (fail)
      go_cut [5] from 34 (fun t V => t = .bool (bookOk q.s q.b) ∧ Hid (SB W0 [.int .i64 q.s.K, .int .i64 q.s.M, .int .i64 q.s.size] [.slice A0 n0 c0, .slice A1 n1 c1, .slice A2 n2 c2, .int .i64 q.b.next] g5 g6 V))
      case first =>
        have hg5 := HSB.out.h5
        have hg6 := HSB.out.h6
        obtain ⟨hr5, hr6, _⟩ := HSB.out
        have k0 := (cell_of_row _ _ 0 _ _ _ hr5).trans (show _ = some (.int .i64 q.s.K : Value) from rfl)
        have k1 := (cell_of_row _ _ 1 _ _ _ hr5).trans (show _ = some (.int .i64 q.s.M : Value) from rfl)
        have k2 := (cell_of_row _ _ 2 _ _ _ hr5).trans (show _ = some (.int .i64 q.s.size : Value) from rfl)
        have z0 := (cell_of_row _ _ 0 _ _ _ hr6).trans (show _ = some (.slice A0 n0 c0 : Value) from rfl)
        have z1 := (cell_of_row _ _ 1 _ _ _ hr6).trans (show _ = some (.slice A1 n1 c1 : Value) from rfl)
        have z2 := (cell_of_row _ _ 2 _ _ _ hr6).trans (show _ = some (.slice A2 n2 c2 : Value) from rfl)
        have z3 := (cell_of_row _ _ 3 _ _ _ hr6).trans (show _ = some (.int .i64 q.b.next : Value) from rfl)
        clear hr5 hr6
        go_wp2_with fail
        refine (refShape_c (s := q.s)).mono ?_
        clear k0 k1 k2 z0 z1 z2 z3
        rintro e w10 ⟨rfl, hb10⟩
        have HS10 := Lib.hid (HSB.out.all hb10); clear hb10 HSB hg5 hg6
        obtain ⟨sh, hsh⟩ : ∃ sh, sh = shapeOk q.s := ⟨_, rfl⟩
        rw [← hsh]
        cases sh with
        | false =>
          have HN : Hid (bookOk q.s q.b = false) := Lib.hid (by
            cases h : bookOk q.s q.b with
            | false => rfl
            | true => rw [bookOk_shape h] at hsh; cases hsh)
          clear hsh
          go_wp2
          go_meet
          case rel => exact ⟨by rw [HN.out], HS10⟩
        | true =>
          clear hsh
          have hg5 := HS10.out.h5
          have hg6 := HS10.out.h6
          obtain ⟨hr5, hr6, _⟩ := HS10.out
          have k0 := (cell_of_row _ _ 0 _ _ _ hr5).trans (show _ = some (.int .i64 q.s.K : Value) from rfl)
          have k1 := (cell_of_row _ _ 1 _ _ _ hr5).trans (show _ = some (.int .i64 q.s.M : Value) from rfl)
          have k2 := (cell_of_row _ _ 2 _ _ _ hr5).trans (show _ = some (.int .i64 q.s.size : Value) from rfl)
          have z0 := (cell_of_row _ _ 0 _ _ _ hr6).trans (show _ = some (.slice A0 n0 c0 : Value) from rfl)
          have z1 := (cell_of_row _ _ 1 _ _ _ hr6).trans (show _ = some (.slice A1 n1 c1 : Value) from rfl)
          have z2 := (cell_of_row _ _ 2 _ _ _ hr6).trans (show _ = some (.slice A2 n2 c2 : Value) from rfl)
          have z3 := (cell_of_row _ _ 3 _ _ _ hr6).trans (show _ = some (.int .i64 q.b.next : Value) from rfl)
          clear hr5 hr6
          go_wp2_with fail
          refine (refBook_c (s := q.s) (b := q.b) HF.out (HWB.out _ HS10.out.below)).mono ?_
          clear k0 k1 k2 z0 z1 z2 z3
          rintro e w11 ⟨rfl, hb11⟩
          have HS11 := Lib.hid (HS10.out.all hb11); clear hb11 HS10 hg5 hg6
          generalize bookOk q.s q.b = bo at *
          go_wp2
          go_meet
          case rel => exact ⟨rfl, HS11⟩
      case rest =>
        rename World => wc
        obtain ⟨rfl, HSc⟩ := hcut
        clear HSB
        have hg5 := HSc.out.h5
        have hg6 := HSc.out.h6
        obtain ⟨hr5, hr6, _⟩ := HSc.out
        have k0 := (cell_of_row _ _ 0 _ _ _ hr5).trans (show _ = some (.int .i64 q.s.K : Value) from rfl)
        have k1 := (cell_of_row _ _ 1 _ _ _ hr5).trans (show _ = some (.int .i64 q.s.M : Value) from rfl)
        have k2 := (cell_of_row _ _ 2 _ _ _ hr5).trans (show _ = some (.int .i64 q.s.size : Value) from rfl)
        have z0 := (cell_of_row _ _ 0 _ _ _ hr6).trans (show _ = some (.slice A0 n0 c0 : Value) from rfl)
        have z1 := (cell_of_row _ _ 1 _ _ _ hr6).trans (show _ = some (.slice A1 n1 c1 : Value) from rfl)
        have z2 := (cell_of_row _ _ 2 _ _ _ hr6).trans (show _ = some (.slice A2 n2 c2 : Value) from rfl)
        have z3 := (cell_of_row _ _ 3 _ _ _ hr6).trans (show _ = some (.int .i64 q.b.next : Value) from rfl)
        clear hr5 hr6
        go_wp2_with fail
        refine (Round_c (s := q.s) (b := q.b) HSI.out HF.out (HWB.out _ HSc.out.below)).mono ?_
        clear k0 k1 k2 z0 z1 z2 z3
        rintro e w12 ⟨rfl, hb12⟩
        have HS12 := Lib.hid (HSc.out.all hb12); clear hb12 HSc hg5 hg6
        have HRR : Hid (roundR q.s q.b = if bookOk q.s q.b = true then ((n0 : Int) * (q.s.K + q.s.M), 0) else (0, 1)) := Lib.hid (by unfold roundR; rw [HL.out])
        have HKK := Lib.hid (fun (h : bookOk q.s q.b = true) => shapeOk_K (bookOk_shape h))
        obtain ⟨r1, hr1⟩ : ∃ r, r = (roundR q.s q.b).1 := ⟨_, rfl⟩
        obtain ⟨r2, hr2⟩ : ∃ r, r = (roundR q.s q.b).2 := ⟨_, rfl⟩
        rw [← hr1, ← hr2]
        have HR1 := Lib.hid hr1
        have HR2 := Lib.hid hr2
        clear hr1 hr2
        go_upto_if 47 with (fail)
        go_cut [5, 8, 9] from 47 (fun bv t u V => bv = .bool (bookOk q.s q.b) ∧ t = .int .i64 r2 ∧ u = .int .i64 r1 ∧ Hid (SB W0 [.int .i64 q.s.K, .int .i64 q.s.M, .int .i64 q.s.size] [.slice A0 n0 c0, .slice A1 n1 c1, .slice A2 n2 c2, .int .i64 q.b.next] g5 g6 V))
        case first =>
          obtain ⟨bo, hbo⟩ : ∃ bo, bo = bookOk q.s q.b := ⟨_, rfl⟩
          rw [← hbo]
          rw [← hbo] at HRR HKK
          have HBO := Lib.hid hbo.symm
          clear hbo
          cases bo with
          | false =>
            have HE : Hid (roundR q.s q.b = (0, 1)) := Lib.hid HRR.out
            go_wp2
            go_meet
            case rel => exact ⟨by rw [HBO.out], by rw [HR2.out, HE.out], by rw [HR1.out, HE.out], HS12⟩
          | true =>
            have HE : Hid (roundR q.s q.b = ((n0 : Int) * (q.s.K + q.s.M), 0)) := Lib.hid HRR.out
            obtain ⟨k1', k2', m1', m2', _, _⟩ := HKK.out (by trivial)
            have HP : Hid ((n0 : Int) * (q.s.K + q.s.M) ≤ 56000 ∧ 0 ≤ (n0 : Int) * (q.s.K + q.s.M)) := Lib.hid ⟨by
              have := Int.mul_le_mul (show (n0 : Int) ≤ 4000 by omega) (show q.s.K + q.s.M ≤ 14 by omega) (by omega) (by omega); omega, Int.mul_nonneg (by omega) (by omega)⟩
            have hP1 := HP.out.1
            have hP2 := HP.out.2
            have hg5 := HS12.out.h5
            have hg6 := HS12.out.h6
            obtain ⟨hr5, hr6, _⟩ := HS12.out
            have k0 := (cell_of_row _ _ 0 _ _ _ hr5).trans (show _ = some (.int .i64 q.s.K : Value) from rfl)
            have k1 := (cell_of_row _ _ 1 _ _ _ hr5).trans (show _ = some (.int .i64 q.s.M : Value) from rfl)
            have k2 := (cell_of_row _ _ 2 _ _ _ hr5).trans (show _ = some (.int .i64 q.s.size : Value) from rfl)
            have z0 := (cell_of_row _ _ 0 _ _ _ hr6).trans (show _ = some (.slice A0 n0 c0 : Value) from rfl)
            have z1 := (cell_of_row _ _ 1 _ _ _ hr6).trans (show _ = some (.slice A1 n1 c1 : Value) from rfl)
            have z2 := (cell_of_row _ _ 2 _ _ _ hr6).trans (show _ = some (.slice A2 n2 c2 : Value) from rfl)
            have z3 := (cell_of_row _ _ 3 _ _ _ hr6).trans (show _ = some (.int .i64 q.b.next : Value) from rfl)
            clear hr5 hr6
            go_wp2_with fail
            have hext := cell_ext w12
            refine region_ext (by kernel_rfl) (by kernel_rfl) ?_
            repeat (go_big_quiet_step (fail))
            refine wpQuiet_nil ?_
            rintro _ ⟨X, rfl⟩
            have HS13 := Lib.hid (HS12.out.all (below_ext w12 X))
            clear hext HS12 hg5 hg6
            clear k0 k1 k2 z0 z1 z2 z3
            generalize w12.ext X = w13 at *
            go_wp2
            go_meet
            case rel => exact ⟨by rw [HBO.out], by rw [HR2.out, HE.out], by rw [HR1.out, HE.out], HS13⟩
        case rest =>
          rename World => wd
          obtain ⟨rfl, rfl, rfl, HSd⟩ := hcut
          clear HS12
          have hne1 : (r1 != r1) = false := by simp
          have hne2 : (r2 != r2) = false := by simp
          go_wp2_with fail
          refine (num17_c (e := r2)).mono ?_
          rintro e w14 ⟨rfl, hb14⟩
          have HS14 := Lib.hid (HSd.out.all hb14); clear hb14 HSd
          go_upto_region 11 with (fail)
          go_cut [10] from 66 (fun t V => ∃ A c, t = .slice A (cs.length + 1) c ∧ Hid (Silo.Own 44 cursorE V w14.heap.size (fun _ => True) A (cs.length + 1) c (⟨-1, -1⟩ :: cs)) ∧ Hid (SB W0 [.int .i64 q.s.K, .int .i64 q.s.M, .int .i64 q.s.size] [.slice A0 n0 c0, .slice A1 n1 c1, .slice A2 n2 c2, .int .i64 q.b.next] g5 g6 V))
          case first =>
            have r0 := ROW.out w14 HS14.out.below
            have b010 := (cell_of_row _ _ 10 _ _ _ r0).trans (show _ = some (.slice A5 n5 c5 : Value) from rfl)
            have hz14 := Nat.lt_of_lt_of_le hz HS14.out.below.size
            clear r0
            obtain ⟨i0, hi, hy0, hy1, hy2⟩ := info_parts Try.info_Cursor
            have hgl : Below w14.heap.size w14 (w14.alloc (.cells #[.int .i64 (-1), .int .i64 (-1)] 44)) := (Below.refl _ _).alloc (Nat.le_refl _) _
            have hlit : Silo.Own 44 cursorE (w14.alloc (.cells #[.int .i64 (-1), .int .i64 (-1)] 44)) w14.heap.size (fun _ => True) (some ⟨w14.heap.size, 0, none⟩) 1 1 ([⟨-1, -1⟩] : List Cursor) := Own.lit [.int .i64 (-1), .int .i64 (-1)] ([⟨-1, -1⟩] : List Cursor) 1 (Nat.le_refl _) (by omega) rfl rfl (fun k y hy => by
              match k, hy with
              | 0, hy => injection hy with hy; subst hy; exact ⟨rfl, show I64 (-1) by unfold I64; omega, show I64 (-1) by unfold I64; omega⟩)
            have hsc := HCC.out _ (HAL.out _ (HS14.out.below.trans (hgl.mono HS14.out.below.size)))
            have HS15 := Lib.hid (HS14.out.all hgl)
            have HGL := Lib.hid hgl; clear hgl
            have hn5 : n5 ≤ 200 := by have h1 : cs.length ≤ 200 := HCL.out; have h2 := HLC.out; omega
            rcases Nat.eq_zero_or_pos n5 with e | e
            · subst e
              obtain rfl : cs = [] := List.eq_nil_of_length_eq_zero HLC.out
              cases A5 with
              | none =>
                go_wp2
                go_meet
                case rel => exact ⟨_, _, rfl, Lib.hid hlit, HS15⟩
              | some ad =>
                go_wp2_with (at_builtin; refine wpList_append_Own rfl _ _ 33 rfl i0 (.agg #[.int .i64 0, .int .i64 0]) 16 Try.underlying33 hi hy0 hy1 hy2 rfl (by decide) rfl hlit ad 0 _ [] [] rfl (by simp) (fun j u hj => by simp at hj) rfl (fun k y hy => by simp at hy) (fun u hu => by simp at hu) (by omega) (by omega) (by simp) ?_)
                intro A9 c9 w15 hown hg _
                have HB15 := Lib.hid (HGL.out.grown hg (by simp) (fun k hk => by simp [ablk] at hk; omega))
                go_wp2
                go_meet
                case rel => exact ⟨_, _, rfl, Lib.hid hown, Lib.hid (HS14.out.all HB15.out)⟩
            · obtain ⟨bc, oc, ec, _⟩ := hsc.2.2.2 e
              subst ec
              go_wp2_with (at_builtin; refine wpList_append_sl rfl _ _ 33 rfl i0 (.agg #[.int .i64 0, .int .i64 0]) 16 Try.underlying33 hi hy0 hy1 hy2 rfl (by decide) rfl hlit rfl hsc (fun vs y _ hR => hR) (by omega) (by omega) (by simp) ?_)
              intro A9 c9 w15 hown hg _
              have HB15 := Lib.hid (HGL.out.grown hg (by simp) (fun k hk => by simp [ablk] at hk; omega))
              go_wp2
              go_meet
              case rel => exact ⟨_, _, by rw [HLC.out, Nat.add_comm], Lib.hid (by rw [HLC.out, Nat.add_comm]; exact hown), Lib.hid (HS14.out.all HB15.out)⟩
          case rest =>
            rename World => we
            obtain ⟨A9, c9, rfl, HO9, HSe⟩ := hcut
            clear HS14
            obtain ⟨N, hN⟩ : ∃ N, N = cs.length + 1 := ⟨_, rfl⟩
            rw [← hN] at HO9 ⊢
            have HN := Lib.hid hN
            have hN1 : N ≤ 201 := by have h1 : cs.length ≤ 200 := HCL.out; omega
            clear hN
            go_wp2_with fail
            go_loopw [11] (fun iv wr => ∃ i : Nat, i ≤ N ∧ i ≤ 8 ∧ iv = .int .i64 i ∧ Hid (Below we.heap.size we wr)) (fun iv _ => 8 - (intOf iv).toNat)
            case atStart => exact ⟨0, Nat.zero_le _, Nat.zero_le _, rfl, Lib.hid (Below.refl _ _)⟩
            case round =>
              rename World => wo
              obtain ⟨i, hi, hi8, rfl, HBo⟩ := hrel
              have HSo := Lib.hid (HSe.out.all HBo.out)
              by_cases hl1 : i < N
              · by_cases hl2 : i < 8
                · have hg5 := HSo.out.h5
                  have hg6 := HSo.out.h6
                  obtain ⟨hr5, hr6, _⟩ := HSo.out
                  have k0 := (cell_of_row _ _ 0 _ _ _ hr5).trans (show _ = some (.int .i64 q.s.K : Value) from rfl)
                  have k1 := (cell_of_row _ _ 1 _ _ _ hr5).trans (show _ = some (.int .i64 q.s.M : Value) from rfl)
                  have k2 := (cell_of_row _ _ 2 _ _ _ hr5).trans (show _ = some (.int .i64 q.s.size : Value) from rfl)
                  have z0 := (cell_of_row _ _ 0 _ _ _ hr6).trans (show _ = some (.slice A0 n0 c0 : Value) from rfl)
                  have z1 := (cell_of_row _ _ 1 _ _ _ hr6).trans (show _ = some (.slice A1 n1 c1 : Value) from rfl)
                  have z2 := (cell_of_row _ _ 2 _ _ _ hr6).trans (show _ = some (.slice A2 n2 c2 : Value) from rfl)
                  have z3 := (cell_of_row _ _ 3 _ _ _ hr6).trans (show _ = some (.int .i64 q.b.next : Value) from rfl)
                  clear hr5 hr6
                  go_wp2_with fail
                  have hBo := HWB.out _ HSo.out.below
                  refine (CopyBook_c (x := q.b) hBo.nx hBo.st hBo.th hBo.ta (by omega) (by have h1 := HLI.out.bk; have h2 := hBo.th.len; omega) (by have h1 := HLI.out.bk; have h2 := hBo.ta.len; omega) HF.out.places HF.out.lists).mono ?_
                  clear k0 k1 k2 z0 z1 z2 z3
                  clear hBo hg5 hg6
                  rintro e w15 ⟨vs, rfl, ⟨B0, p0, d0, B1, p1, d1, B2, p2, d2, rfl, _, hk0, hk1, hk2⟩, hb15⟩
                  have HS15 := Lib.hid (HSo.out.all hb15)
                  have HK := Lib.hid (And.intro hk0 (And.intro hk1 hk2))
                  have HB15 := Lib.hid hb15
                  clear hk0 hk1 hk2 hb15
                  go_upto_region 16 with (fail)
                  obtain ⟨b9, o9, eA9, _, hb9, hI1, hI2, y0, y1, _⟩ := ((HO9.out.all HBo.out).sl (tg := true)).cursor_at hl1
                  have HA9 := Lib.hid eA9
                  subst eA9
                  generalize (({ stripe := -1, index := -1 } : Cursor) :: cs).getD i default = c at *
                  have HCI := Lib.hid (And.intro hI1 hI2); clear hI1 hI2 HA9
                  have hrow12 := heap_alloc_new w15 (.cells #[.slice B0 p0 d0, .slice B1 p1 d1, .slice B2 p2 d2, .int .i64 q.b.next] 28)
                  have hal : Below w15.heap.size w15 (w15.alloc (.cells #[.slice B0 p0 d0, .slice B1 p1 d1, .slice B2 p2 d2, .int .i64 q.b.next] 28)) := (Below.refl _ _).alloc (Nat.le_refl _) _
                  have hl12 : w15.heap.size < (w15.alloc (.cells #[.slice B0 p0 d0, .slice B1 p1 d1, .slice B2 p2 d2, .int .i64 q.b.next] 28)).heap.size := by simp
                  have HB16 := Lib.hid (HB15.out.trans (hal.mono HB15.out.size))
                  have HS16 := Lib.hid (HS15.out.all hal)
                  have HCB := Lib.hid (show BookR (w15.alloc (.cells #[.slice B0 p0 d0, .slice B1 p1 d1, .slice B2 p2 d2, .int .i64 q.b.next] 28)) (fun k => k < w15.heap.size) true true true true B0 p0 d0 B1 p1 d1 B2 p2 d2 q.b from ⟨(HK.out.1.lt_block.mono (fun _ h _ => h.2)).all hal, (HK.out.2.1.lt_block.mono (fun _ h _ => h.2)).all hal, (HK.out.2.2.lt_block.mono (fun _ h _ => h.2)).all hal, (HWB.out _ HSo.out.below).nx⟩)
                  clear hal HB15 HS15 HK
                  generalize (w15.alloc (.cells #[.slice B0 p0 d0, .slice B1 p1 d1, .slice B2 p2 d2, .int .i64 q.b.next] 28)) = w16 at *
                  generalize w15.heap.size = g12 at *
                  have R12 := Lib.hid hrow12; clear hrow12
                  have HCU := Lib.hid (fun V (hV : Below wo.heap.size wo V) => And.intro ((hV.cell (p := ⟨b9, o9 + i * 2, none⟩) hb9).trans y0) ((hV.cell (p := ⟨b9, o9 + i * 2 + 1, none⟩) hb9).trans y1)); clear y0 y1
                  obtain ⟨nr, hnr⟩ : ∃ nr, nr = nextR q.s q.b c := ⟨_, rfl⟩
                  have HNR := Lib.hid hnr; clear hnr
                  have h1216 : g12 ≤ w16.heap.size := Nat.le_of_lt hl12
                  refine next16 (A0 := B0) (A1 := B1) (A2 := B2) (n0 := p0) (c0 := d0) (n1 := p1) (c1 := d1) (n2 := p2) (c2 := d2) (s := q.s) (nx := q.b.next) (c := c) (x := nr.1) (er := nr.2) (g12 := g12) (b9 := b9) (o9 := o9) (i := i) (N := N) (Lib.hid HS16.out.r5) R12 hl1 (Lib.hid (fun V hV => HCU.out V (HB16.out.trans (hV.mono HB16.out.size)))) (Lib.hid (fun V hV => by
                    rw [HNR.out]
                    exact Next_c HSI.out HF.out (HCB.out.all hV) (fun k hk => Nat.lt_of_lt_of_le (Nat.lt_of_lt_of_le hk h1216) hV.size))) rfl rfl rfl rfl rfl ?_
                  intro v wz g13 hv13 hv14 hg13 hr13 hbz
                  simp only [putAll, List.map_cons, List.map_nil, List.foldl_cons, List.foldl_nil, Act.put, List.setIfInBounds_toArray, List.set_cons_succ, List.set_cons_zero]
                  rw [hv13, hv14]
                  have HSz := Lib.hid (HS16.out.all hbz)
                  have HBz := Lib.hid (HB16.out.trans (hbz.mono HB16.out.size))
                  have HCBz := Lib.hid (HCB.out.all hbz)
                  have R12z := Lib.hid ((hbz.block _ hl12).trans R12.out)
                  have h13 : g13 < wz.heap.size := (Array.getElem?_eq_some_iff.1 hr13).1
                  have h12z : g12 < wz.heap.size := Nat.lt_of_lt_of_le hl12 hbz.size
                  have R13 := Lib.hid hr13
                  clear hbz hr13 hv13 hv14 HSo HS16 HB16 HCB R12 hl12 h1216
                  have h5z := HSz.out.h5
                  have h6z := HSz.out.h6
                  go_upto_region 18 with (fail)
                  have hrow16 := heap_alloc_new wz (.cells #[.int .i64 0, .int .i64 0] 44)
                  have hal : Below wz.heap.size wz (wz.alloc (.cells #[.int .i64 0, .int .i64 0] 44)) := (Below.refl _ _).alloc (Nat.le_refl _) _
                  have hl16 : wz.heap.size < (wz.alloc (.cells #[.int .i64 0, .int .i64 0] 44)).heap.size := by simp
                  generalize (wz.alloc (.cells #[.int .i64 0, .int .i64 0] 44)) = wy at *
                  have HBy := Lib.hid hal; clear hal
                  have R16 := Lib.hid hrow16; clear hrow16
                  obtain ⟨bo, hbo⟩ : ∃ bo, bo = bookOk q.s q.b := ⟨_, rfl⟩
                  rw [← hbo]
                  have HBO := Lib.hid hbo.symm
                  clear hbo
                  go_cut [17] from 94 to 201 (fun t V => t = .bool (bo && cursorOk q.s c) ∧ Hid (Below wy.heap.size wy V))
                  case first =>
                    cases bo with
                    | false =>
                      refine next18f rfl rfl ?_
                      intro v w18 hv hb18
                      simp only [putAll, List.map_cons, List.map_nil, List.foldl_cons, List.foldl_nil, Act.put, List.setIfInBounds_toArray, List.set_cons_succ, List.set_cons_zero]
                      rw [hv]
                      have HB18 := Lib.hid hb18
                      go_wp2
                      go_meet
                      case rel => exact ⟨rfl, HB18⟩
                    | true =>
                      refine next18t (s := q.s) (c := c) (ck := cursorOk q.s c) (b9 := b9) (o9 := o9) (i := i) (N := N) (Lib.hid (HSz.out.all HBy.out).r5) hl1 (Lib.hid (fun V hV => HCU.out V (HBz.out.trans ((HBy.out.trans (hV.mono HBy.out.size)).mono HBz.out.size)))) (Lib.hid (fun V _ => refCursor_c (bookOk_shape HBO.out))) rfl rfl rfl rfl rfl ?_
                      intro v w18 hv hb18
                      simp only [putAll, List.map_cons, List.map_nil, List.foldl_cons, List.foldl_nil, Act.put, List.setIfInBounds_toArray, List.set_cons_succ, List.set_cons_zero]
                      rw [hv]
                      have HB18 := Lib.hid hb18
                      go_wp2
                      go_meet
                      case rel => exact ⟨rfl, HB18⟩
                  case rest =>
                    rename World => w18
                    obtain ⟨rfl, HB18⟩ := hcut
                    have HBzy := Lib.hid (HBy.out.trans (HB18.out.mono HBy.out.size))
                    have R16b := Lib.hid ((HB18.out.block _ hl16).trans R16.out)
                    have hl18 : wz.heap.size < w18.heap.size := Nat.lt_of_lt_of_le hl16 HB18.out.size
                    clear HBy HB18 R16 hl16
                    obtain ⟨gd, hgd⟩ : ∃ gd, gd = (bo && cursorOk q.s c) := ⟨_, rfl⟩
                    rw [← hgd]
                    have HGD := Lib.hid hgd.symm
                    clear hgd
                    go_upto_if 103 with (fail)
                    go_cut [15] from 103 to 201 (fun t V => t = .int .i64 nr.2 ∧ Hid (Below wz.heap.size wz V ∧ V.heap[wz.heap.size]? = some (.cells #[.int .i64 nr.1.stripe, .int .i64 nr.1.index] 44 (0, 0))))
                    case first =>
                      cases gd with
                      | false =>
                        have HE : Hid (nr = (⟨0, 0⟩, 1)) := Lib.hid (by rw [HNR.out]; unfold nextR; rw [if_neg (by rw [← HBO.out] at HGD; rw [HGD.out]; decide)])
                        go_wp2
                        go_meet
                        case rel => exact ⟨by rw [HE.out], Lib.hid ⟨HBzy.out, by rw [HE.out]; exact R16b.out⟩⟩
                      | true =>
                        have hbt : bo = true := by cases bo with
                          | true => rfl
                          | false => exact absurd HGD.out (by simp)
                        have HCT : Hid (cursorOk q.s c = true) := Lib.hid (by have := HGD.out; rw [hbt] at this; simpa using this)
                        have HOK : Hid (bookOk q.s q.b = true) := Lib.hid (HBO.out.trans hbt)
                        clear hbt
                        have HS18 := Lib.hid (HSz.out.all HBzy.out)
                        have hg5 := HS18.out.h5
                        have hg6 := HS18.out.h6
                        obtain ⟨hr5, hr6, _⟩ := HS18.out
                        have k0 := (cell_of_row _ _ 0 _ _ _ hr5).trans (show _ = some (.int .i64 q.s.K : Value) from rfl)
                        have k1 := (cell_of_row _ _ 1 _ _ _ hr5).trans (show _ = some (.int .i64 q.s.M : Value) from rfl)
                        have k2 := (cell_of_row _ _ 2 _ _ _ hr5).trans (show _ = some (.int .i64 q.s.size : Value) from rfl)
                        have z0 := (cell_of_row _ _ 0 _ _ _ hr6).trans (show _ = some (.slice A0 n0 c0 : Value) from rfl)
                        have z1 := (cell_of_row _ _ 1 _ _ _ hr6).trans (show _ = some (.slice A1 n1 c1 : Value) from rfl)
                        have z2 := (cell_of_row _ _ 2 _ _ _ hr6).trans (show _ = some (.slice A2 n2 c2 : Value) from rfl)
                        have z3 := (cell_of_row _ _ 3 _ _ _ hr6).trans (show _ = some (.int .i64 q.b.next : Value) from rfl)
                        clear hr5 hr6
                        by_cases h0 : 0 < n0
                        · have HE : Hid (nr = (nextX q.s q.b.stripes c, 0)) := Lib.hid (by rw [HNR.out]; unfold nextR; rw [if_pos (by rw [HOK.out, HCT.out]; rfl), if_pos (by rw [HL.out]; exact h0)])
                          go_upto_region 22 with (fail)
                          clear k0 k1 k2 z0 z1 z2 z3
                          refine next22 (A0 := A0) (A1 := A1) (A2 := A2) (n0 := n0) (c0 := c0) (n1 := n1) (c1 := c1) (n2 := n2) (c2 := c2) (s := q.s) (nx := q.b.next) (c := c) (x := nextX q.s q.b.stripes c) (b9 := b9) (o9 := o9) (i := i) (N := N) (g16 := wz.heap.size) (Lib.hid HS18.out.r5) (Lib.hid HS18.out.r6) R16b hl1 (Lib.hid (fun V hV => HCU.out V (HBz.out.trans ((HBzy.out.trans (hV.mono HBzy.out.size)).mono HBz.out.size)))) (Lib.hid (fun V hV => by
                            obtain ⟨a1, a2, a3, a4⟩ := cursorOk_of HCT.out
                            obtain ⟨b1, b2, b3, b4, _, _⟩ := shapeOk_K (bookOk_shape HOK.out)
                            exact refNext_c (bookOk_shape HOK.out) (HWB.out _ (HS18.out.below.trans (hV.mono HS18.out.below.size))).st h0 ⟨a3, by omega⟩)) rfl rfl rfl rfl rfl rfl ?_
                          intro v w22 hv hr22 hb22
                          simp only [putAll, List.map_cons, List.map_nil, List.foldl_cons, List.foldl_nil, Act.put, List.setIfInBounds_toArray, List.set_cons_succ, List.set_cons_zero]
                          rw [hv]
                          have HF22 : Hid (Below wz.heap.size wz w22 ∧ w22.heap[wz.heap.size]? = some (.cells #[.int .i64 nr.1.stripe, .int .i64 nr.1.index] 44 (0, 0))) := Lib.hid ⟨HBzy.out.trans hb22, by rw [HE.out]; exact hr22⟩
                          clear hr22 hb22
                          go_wp2
                          go_meet
                          case rel => exact ⟨by rw [HE.out], HF22⟩
                        · have HE : Hid (nr = (⟨0, 0⟩, 3)) := Lib.hid (by rw [HNR.out]; unfold nextR; rw [if_pos (by rw [HOK.out, HCT.out]; rfl), if_neg (by rw [HL.out]; exact h0)])
                          obtain rfl : n0 = 0 := by omega
                          go_wp2
                          go_meet
                          case rel => exact ⟨by rw [HE.out], Lib.hid ⟨HBzy.out, by rw [HE.out]; exact R16b.out⟩⟩
                    case rest =>
                      rename World => w23
                      obtain ⟨rfl, HW23⟩ := hcut
                      clear HBzy R16b hl18
                      have hnr2 : (nr.2 != nr.2) = false := by simp
                      have hqx : ∀ V : World, (Op.equalIn 10000 44 (.agg #[.int .i64 nr.1.stripe, .int .i64 nr.1.index]) (.agg #[.int .i64 nr.1.stripe, .int .i64 nr.1.index])).run Try.prog V = .ok true V := fun V => (eqv_Cursor nr.1 nr.1 V).trans (by rw [decide_eq_true rfl])
                      have hqg := eqg_Cursor
                      go_wp2_with fail
                      refine (num17_c (e := nr.2)).mono ?_
                      rintro e w24 ⟨rfl, hb24⟩
                      have HB24 := Lib.hid (HW23.out.1.trans (hb24.mono HW23.out.1.size))
                      have R16c := Lib.hid ((hb24.block _ (Array.getElem?_eq_some_iff.1 HW23.out.2).1).trans HW23.out.2)
                      clear hb24 HW23
                      have HS24 := Lib.hid (HSz.out.all HB24.out)
                      have hg6 := HS24.out.h6
                      have r13 := (HB24.out.block _ h13).trans R13.out
                      have x0 := (cell_of_row _ _ 0 _ _ _ r13).trans (show _ = some (.int .i64 nr.1.stripe : Value) from rfl)
                      have x1 := (cell_of_row _ _ 1 _ _ _ r13).trans (show _ = some (.int .i64 nr.1.index : Value) from rfl)
                      have d0' := (cell_of_row _ _ 0 _ _ _ R16c.out).trans (show _ = some (.int .i64 nr.1.stripe : Value) from rfl)
                      have d1' := (cell_of_row _ _ 1 _ _ _ R16c.out).trans (show _ = some (.int .i64 nr.1.index : Value) from rfl)
                      have r12 := (HB24.out.block _ h12z).trans R12z.out
                      have y0 := (cell_of_row _ _ 0 _ _ _ r12).trans (show _ = some (.slice B0 p0 d0 : Value) from rfl)
                      have y1 := (cell_of_row _ _ 1 _ _ _ r12).trans (show _ = some (.slice B1 p1 d1 : Value) from rfl)
                      have y2 := (cell_of_row _ _ 2 _ _ _ r12).trans (show _ = some (.slice B2 p2 d2 : Value) from rfl)
                      have y3 := (cell_of_row _ _ 3 _ _ _ r12).trans (show _ = some (.int .i64 q.b.next : Value) from rfl)
                      clear r12 r13
                      obtain ⟨hr5, hr6, _⟩ := HS24.out
                      have k0 := (cell_of_row _ _ 0 _ _ _ hr5).trans (show _ = some (.int .i64 q.s.K : Value) from rfl)
                      have k1 := (cell_of_row _ _ 1 _ _ _ hr5).trans (show _ = some (.int .i64 q.s.M : Value) from rfl)
                      have k2 := (cell_of_row _ _ 2 _ _ _ hr5).trans (show _ = some (.int .i64 q.s.size : Value) from rfl)
                      have z0 := (cell_of_row _ _ 0 _ _ _ hr6).trans (show _ = some (.slice A0 n0 c0 : Value) from rfl)
                      have z1 := (cell_of_row _ _ 1 _ _ _ hr6).trans (show _ = some (.slice A1 n1 c1 : Value) from rfl)
                      have z2 := (cell_of_row _ _ 2 _ _ _ hr6).trans (show _ = some (.slice A2 n2 c2 : Value) from rfl)
                      have z3 := (cell_of_row _ _ 3 _ _ _ hr6).trans (show _ = some (.int .i64 q.b.next : Value) from rfl)
                      clear hr5 hr6
                      go_wp2_with fail
                      have hcb := HCBz.out.all HB24.out
                      have hwb := HWB.out _ HS24.out.below
                      refine (EqBook_c (x := q.b) (y := q.b) hcb.st hcb.th hcb.ta hwb.st hwb.th hwb.ta).mono ?_
                      clear hcb hwb x0 x1 d0' d1' y0 y1 y2 y3 hqx hqg
                      clear k0 k1 k2 z0 z1 z2 z3
                      rintro e w25 ⟨rfl, hb25⟩
                      rw [decide_eq_true rfl]
                      have HB25 := Lib.hid (HB24.out.trans (hb25.mono HB24.out.size))
                      clear hb25 HB24 R16c HS24 hg6
                      go_upto_region 25 with (fail)
                      refine next25 (gA := w.heap.size) (m := m) (Lib.hid (fun V hV => (cell_of_row _ _ 11 _ _ _ (ROW.out V ((HSz.out.all HB25.out).below.trans (hV.mono (HSz.out.all HB25.out).below.size)))).trans rfl)) (Lib.hid (fun V _ => Within_c HMI.out (by decide) (by decide))) rfl rfl ?_
                      intro v w26 g18 y hv hg18 hy hr18 hb26
                      simp only [putAll, List.map_cons, List.map_nil, List.foldl_cons, List.foldl_nil, Act.put, List.setIfInBounds_toArray, List.set_cons_succ, List.set_cons_zero]
                      rw [hv]
                      have HB26 := Lib.hid (HB25.out.trans (hb26.mono HB25.out.size))
                      have R18 := Lib.hid hr18
                      have hl18 : g18 < w26.heap.size := (Array.getElem?_eq_some_iff.1 hr18).1
                      have HY := Lib.hid hy
                      clear hb26 hr18 hy HB25 hv hg18
                      have HB26e := Lib.hid (HBo.out.trans ((HBz.out.trans (HB26.out.mono HBz.out.size)).mono HBo.out.size))
                      have HS26 := Lib.hid (HSz.out.all HB26.out)
                      have R12k := Lib.hid ((HB26.out.block _ h12z).trans R12z.out)
                      have h12k : g12 < w26.heap.size := Nat.lt_of_lt_of_le h12z HB26.out.size
                      have HCBk := Lib.hid (HCBz.out.all HB26.out)
                      have h1226 : g12 ≤ w26.heap.size := Nat.le_of_lt h12k
                      have HCUk := Lib.hid (fun V (hV : Below w26.heap.size w26 V) => HCU.out V (HBz.out.trans ((HB26.out.trans (hV.mono HB26.out.size)).mono HBz.out.size)))
                      have HB9 := Lib.hid (Nat.lt_of_lt_of_le hb9 (Nat.le_trans HBz.out.size HB26.out.size))
                      clear HB26 HBz HSz R12z h12z HCBz HCU R13 h13 h5z h6z hb9
                      go_wp2_with fail
                      go_loopw [19] (fun kv wr => ∃ k : Nat, k ≤ 3 ∧ kv = .int .i64 k ∧ Hid (Below w26.heap.size w26 wr)) (fun kv _ => 3 - (intOf kv).toNat)
                      case atStart => exact ⟨0, by omega, rfl, Lib.hid (Below.refl _ _)⟩
                      case round =>
                        rename World => wk
                        obtain ⟨k, hk3, rfl, HBk⟩ := hrel
                        by_cases hlt : k < 3
                        · obtain ⟨nk, HNK⟩ : ∃ nk : Int, Hid (∀ V, Below w26.heap.size w26 V → V.cell? ⟨g18, k, none⟩ = some (.int .i64 nk)) := by
                            match k, hlt with
                            | 0, _ => exact ⟨m, Lib.hid (fun V hV => cell_of_row _ _ 0 _ _ _ ((hV.block _ hl18).trans R18.out))⟩
                            | 1, _ => exact ⟨y, Lib.hid (fun V hV => cell_of_row _ _ 1 _ _ _ ((hV.block _ hl18).trans R18.out))⟩
                            | 2, _ => exact ⟨0, Lib.hid (fun V hV => cell_of_row _ _ 2 _ _ _ ((hV.block _ hl18).trans R18.out))⟩
                          go_upto_region 29 with (fail)
                          rw [decide_eq_true (show (k : Int) < 3 from Int.ofNat_lt.2 hlt)]
                          obtain ⟨xs, ew, hfr⟩ : ∃ xs ew, fairR q.s q.b c nk = (xs, ew) := ⟨_, _, rfl⟩
                          have HFR := Lib.hid hfr; clear hfr
                          refine next29 (A0 := B0) (A1 := B1) (A2 := B2) (n0 := p0) (c0 := d0) (n1 := p1) (c1 := d1) (n2 := p2) (c2 := d2) (s := q.s) (nx := q.b.next) (c := c) (xs := xs) (er := ew) (g12 := g12) (b8 := g18) (b9 := b9) (o9 := o9) (i := i) (k := k) (nk := nk) (N := N) (Lib.hid (HS26.out.all HBk.out).r5) (Lib.hid ((HBk.out.block _ h12k).trans R12k.out)) hl1 (Lib.hid (fun V hV => HCUk.out V (HBk.out.trans (hV.mono HBk.out.size)))) hlt (Lib.hid (fun V hV => HNK.out V (HBk.out.trans (hV.mono HBk.out.size)))) (Lib.hid (fun V hV => by
                            have hq := Fair_c (w := V) (c := c) (m := nk) HSI.out HF.out (HCBk.out.all (HBk.out.trans (hV.mono HBk.out.size))) (fun b hb => Nat.lt_of_lt_of_le (Nat.lt_of_lt_of_le hb h1226) (HBk.out.trans (hV.mono HBk.out.size)).size)
                            rw [HFR.out] at hq
                            exact hq)) rfl rfl rfl rfl rfl rfl rfl ?_
                          intro v w29 A20 q20 hv20 hv21 hsl hb29
                          simp only [putAll, List.map_cons, List.map_nil, List.foldl_cons, List.foldl_nil, Act.put, List.setIfInBounds_toArray, List.set_cons_succ, List.set_cons_zero]
                          rw [hv20, hv21]
                          have HSL := Lib.hid hsl
                          have HB29 := Lib.hid (HBk.out.trans (hb29.mono HBk.out.size))
                          have HS29 := Lib.hid (HS26.out.all HB29.out)
                          clear hsl hb29 hv20 hv21 HBk
                          go_upto_region 32 with (fail)
                          go_cut [163] from 156 to 201 (fun t V => t = .bool (gd && decide (0 ≤ nk ∧ nk ≤ 2000)) ∧ Hid (Below w29.heap.size w29 V))
                          case first =>
                            cases gd with
                            | false =>
                              go_wp2
                              go_meet
                              case rel => exact ⟨rfl, Lib.hid (Below.refl _ _)⟩
                            | true =>
                              have z8 := HNK.out _ HB29.out
                              have hk3' : (k : Int) < 3 := by omega
                              go_wp2_with fail
                              refine (Num_c (n := nk) (m := 2000)).mono ?_
                              rintro e w30 ⟨rfl, hb30⟩
                              have HB30 := Lib.hid hb30; clear hb30 z8
                              generalize decide (0 ≤ nk ∧ nk ≤ 2000) = d30 at *
                              go_wp2
                              go_meet
                              case rel => exact ⟨rfl, HB30⟩
                          case rest =>
                            rename World => w32
                            obtain ⟨rfl, HB32⟩ := hcut
                            obtain ⟨gk, hgk⟩ : ∃ gk, gk = (gd && decide (0 ≤ nk ∧ nk ≤ 2000)) := ⟨_, rfl⟩
                            rw [← hgk]
                            have HGK := Lib.hid hgk.symm; clear hgk
                            go_upto_if 163 with (fail)
                            go_cut [22, 23, 24, 25] from 163 to 201 (fun t u _ _ V => t = .int .i64 ew ∧ ∃ A c', u = .slice A xs.length c' ∧ Hid (Sl true 44 cursorE V (fun _ => True) A xs.length c' xs) ∧ Hid (Below w29.heap.size w29 V))
                            case first =>
                              cases gk with
                              | false =>
                                have HE : Hid (xs = [] ∧ ew = 1) := Lib.hid (by
                                  have h1 := HFR.out
                                  unfold fairR at h1
                                  rw [if_neg (by
                                    intro h2
                                    have h3 := HGK.out
                                    rw [← HGD.out, ← HBO.out, h2.1, decide_eq_true h2.2] at h3
                                    cases h3)] at h1
                                  injection h1 with h1 h2
                                  exact ⟨h1.symm, h2.symm⟩)
                                obtain ⟨hxs, hew⟩ := HE.out
                                subst hxs
                                subst hew
                                clear HE
                                go_wp2
                                go_meet
                                case rel => exact ⟨rfl, none, 0, rfl, Lib.hid (Sl.nil_ (by omega)), HB32⟩
                              | true =>
                                have hgt : gd = true ∧ (0 ≤ nk ∧ nk ≤ 2000) := by have := HGK.out; simpa using this
                                have hbt : bo = true ∧ cursorOk q.s c = true := by have := HGD.out; rw [hgt.1] at this; simpa using this
                                have hnk := hgt.2
                                have HCT := Lib.hid hbt.2
                                have HOK : Hid (bookOk q.s q.b = true) := Lib.hid (HBO.out.trans hbt.1)
                                have HE : Hid ((xs, ew) = (if 0 < n0 then (piecesX q.s q.b.stripes c nk.toNat, (0 : Int)) else (([] : List Cursor), (3 : Int)))) := Lib.hid (by
                                  rw [← HFR.out]
                                  unfold fairR
                                  rw [if_pos ⟨by rw [HOK.out, HCT.out]; rfl, hnk⟩, HL.out])
                                clear hgt hbt
                                have HS32 := Lib.hid (HS29.out.all HB32.out)
                                have hg6 := HS32.out.h6
                                obtain ⟨hr5, hr6, _⟩ := HS32.out
                                have k0 := (cell_of_row _ _ 0 _ _ _ hr5).trans (show _ = some (.int .i64 q.s.K : Value) from rfl)
                                have k1 := (cell_of_row _ _ 1 _ _ _ hr5).trans (show _ = some (.int .i64 q.s.M : Value) from rfl)
                                have k2 := (cell_of_row _ _ 2 _ _ _ hr5).trans (show _ = some (.int .i64 q.s.size : Value) from rfl)
                                have z0 := (cell_of_row _ _ 0 _ _ _ hr6).trans (show _ = some (.slice A0 n0 c0 : Value) from rfl)
                                have z1 := (cell_of_row _ _ 1 _ _ _ hr6).trans (show _ = some (.slice A1 n1 c1 : Value) from rfl)
                                have z2 := (cell_of_row _ _ 2 _ _ _ hr6).trans (show _ = some (.slice A2 n2 c2 : Value) from rfl)
                                have z3 := (cell_of_row _ _ 3 _ _ _ hr6).trans (show _ = some (.int .i64 q.b.next : Value) from rfl)
                                clear hr5 hr6
                                go_upto_if 167 with (fail)
                                go_cut [22] from 167 to 201 (fun t V => t = .int .i64 ew ∧ Hid (Below w32.heap.size w32 V))
                                case first =>
                                  by_cases h0 : 0 < n0
                                  · have hew : ew = 0 := by have h1 := HE.out; rw [if_pos h0] at h1; injection h1
                                    subst hew
                                    go_wp2
                                    go_meet
                                    case rel => exact ⟨rfl, Lib.hid (Below.refl _ _)⟩
                                  · have hew : ew = 3 := by have h1 := HE.out; rw [if_neg h0] at h1; injection h1
                                    subst hew
                                    obtain rfl : n0 = 0 := by omega
                                    go_wp2
                                    go_meet
                                    case rel => exact ⟨rfl, Lib.hid (Below.refl _ _)⟩
                                case rest =>
                                  rename World => w35
                                  obtain ⟨rfl, HB35⟩ := hcut
                                  clear k0 k1 k2 z0 z1 z2 z3
                                  clear hg6
                                  have HB35a := Lib.hid (HB32.out.trans (HB35.out.mono HB32.out.size))
                                  have HB35b := Lib.hid (HB29.out.trans (HB35a.out.mono HB29.out.size))
                                  clear HB35 HS32 HB32
                                  obtain ⟨y0, y1⟩ := HCUk.out w35 HB35b.out
                                  have hb9k := Nat.lt_of_lt_of_le HB9.out HB35b.out.size
                                  go_upto_region 37 with (fail)
                                  have hrow24 := heap_alloc_new w35 (.cells #[.int .i64 c.stripe, .int .i64 c.index] 44)
                                  have hal : Below w35.heap.size w35 (w35.alloc (.cells #[.int .i64 c.stripe, .int .i64 c.index] 44)) := (Below.refl _ _).alloc (Nat.le_refl _) _
                                  have hl24 : w35.heap.size < (w35.alloc (.cells #[.int .i64 c.stripe, .int .i64 c.index] 44)).heap.size := by simp
                                  generalize (w35.alloc (.cells #[.int .i64 c.stripe, .int .i64 c.index] 44)) = w36 at *
                                  have HB36 := Lib.hid hal; clear hal
                                  have R24 := Lib.hid hrow24; clear hrow24 y0 y1 hb9k
                                  obtain ⟨tn, HTN⟩ : ∃ tn : Nat, Hid (xs = piecesX q.s q.b.stripes c tn ∧ ((0 < n0 ∧ ew = 0 ∧ tn = nk.toNat) ∨ (ew = 3 ∧ tn = 0))) := by
                                    have h1 := HE.out
                                    by_cases h0 : 0 < n0
                                    · rw [if_pos h0] at h1; injection h1 with h1 h2; exact ⟨nk.toNat, Lib.hid ⟨h1, .inl ⟨h0, h2, rfl⟩⟩⟩
                                    · rw [if_neg h0] at h1; injection h1 with h1 h2; exact ⟨0, Lib.hid ⟨h1, .inr ⟨h2, rfl⟩⟩⟩
                                  have HXL : Hid (xs.length = tn) := Lib.hid (by rw [HTN.out.1]; exact piecesX_len _ _ _ _)
                                  have h2436 : w35.heap.size < w36.heap.size := hl24
                                  clear HE hl24
                                  go_wp2_with fail
                                  go_loopw [23, 25] (fun lv qv wr => ∃ j : Nat, ∃ A c', j ≤ tn ∧ qv = .int .i64 j ∧ lv = .slice A j c' ∧ Hid (Silo.Own 44 cursorE wr w36.heap.size (fun _ => False) A j c' (piecesX q.s q.b.stripes c j)) ∧ Hid (Below w35.heap.size w35 wr ∧ w36.heap.size ≤ wr.heap.size ∧ wr.heap[w35.heap.size]? = some (.cells #[.int .i64 (turnsC q.s q.b.stripes c j).stripe, .int .i64 (turnsC q.s q.b.stripes c j).index] 44 (0, 0)))) (fun _ qv _ => tn - (intOf qv).toNat)
                                  case atStart => exact ⟨0, none, 0, Nat.zero_le _, rfl, rfl, Lib.hid Own.nil_, Lib.hid ⟨HB36.out, Nat.le_refl _, R24.out⟩⟩
                                  case round =>
                                    rename World => wq
                                    obtain ⟨j, A, c', hj, rfl, rfl, HO, HR⟩ := hrel
                                    have HBq := Lib.hid (HB35b.out.trans (HR.out.1.mono HB35b.out.size))
                                    have z8 := HNK.out wq HBq.out
                                    have hk3' : (k : Int) < 3 := Int.ofNat_lt.2 hlt
                                    have HSq := Lib.hid (HS26.out.all HBq.out)
                                    have HBQ9 := Lib.hid (HB35a.out.trans (HR.out.1.mono HB35a.out.size))
                                    rcases HTN.out.2 with ⟨h0, hew, htn⟩ | ⟨hew, htn⟩
                                    · subst hew
                                      by_cases hjn : (j : Int) < nk
                                      · have hjt : j + 1 ≤ tn := by rw [htn]; exact lt_toNat' hjn
                                        have hg5 := HSq.out.h5
                                        have hg6 := HSq.out.h6
                                        obtain ⟨hr5, hr6, _⟩ := HSq.out
                                        have k0 := (cell_of_row _ _ 0 _ _ _ hr5).trans (show _ = some (.int .i64 q.s.K : Value) from rfl)
                                        have k1 := (cell_of_row _ _ 1 _ _ _ hr5).trans (show _ = some (.int .i64 q.s.M : Value) from rfl)
                                        have k2 := (cell_of_row _ _ 2 _ _ _ hr5).trans (show _ = some (.int .i64 q.s.size : Value) from rfl)
                                        have z0 := (cell_of_row _ _ 0 _ _ _ hr6).trans (show _ = some (.slice A0 n0 c0 : Value) from rfl)
                                        have z1 := (cell_of_row _ _ 1 _ _ _ hr6).trans (show _ = some (.slice A1 n1 c1 : Value) from rfl)
                                        have z2 := (cell_of_row _ _ 2 _ _ _ hr6).trans (show _ = some (.slice A2 n2 c2 : Value) from rfl)
                                        have z3 := (cell_of_row _ _ 3 _ _ _ hr6).trans (show _ = some (.int .i64 q.b.next : Value) from rfl)
                                        clear hr5 hr6
                                        have t0 := (cell_of_row _ _ 0 _ _ _ HR.out.2.2).trans (show _ = some (.int .i64 (turnsC q.s q.b.stripes c j).stripe : Value) from rfl)
                                        have t1 := (cell_of_row _ _ 1 _ _ _ HR.out.2.2).trans (show _ = some (.int .i64 (turnsC q.s q.b.stripes c j).index : Value) from rfl)
                                        have HTC : Hid (turnsC q.s q.b.stripes c (j + 1) = nextX q.s q.b.stripes (turnsC q.s q.b.stripes c j) ∧ (-1 ≤ (turnsC q.s q.b.stripes c j).index ∧ (turnsC q.s q.b.stripes c j).index ≤ 100) ∧ piecesX q.s q.b.stripes c (j + 1) = piecesX q.s q.b.stripes c j ++ [turnsC q.s q.b.stripes c (j + 1)] ∧ I64 (turnsC q.s q.b.stripes c (j + 1)).stripe ∧ I64 (turnsC q.s q.b.stripes c (j + 1)).index) := Lib.hid (by
                                          obtain ⟨b1, b2, b3, b4, _, _⟩ := shapeOk_K (bookOk_shape HOK.out)
                                          have q1 := turnsC_ok (s := q.s) (l := q.b.stripes) (by rw [HL.out]; exact h0) (by omega) (bookOk_ids HOK.out) (cursorOk_of HCT.out) j
                                          have q2 := turnsC_ok (s := q.s) (l := q.b.stripes) (by rw [HL.out]; exact h0) (by omega) (bookOk_ids HOK.out) (cursorOk_of HCT.out) (j + 1)
                                          exact ⟨rfl, ⟨q1.2.2.1, by omega⟩, piecesX_succ _ _ _ _, by unfold I64; omega, by unfold I64; omega⟩)
                                        generalize turnsC q.s q.b.stripes c j = tc at *
                                        go_wp2_with fail
                                        refine (refNext_c (bookOk_shape HOK.out) (HWB.out _ HSq.out.below).st h0 HTC.out.2.1).mono ?_
                                        clear k0 k1 k2 z0 z1 z2 z3
                                        clear t0 t1 hg5 hg6 z8
                                        rintro e w38 ⟨rfl, hb38⟩
                                        rw [← HTC.out.1]
                                        have hgq : w35.heap.size < wq.heap.size := (Array.getElem?_eq_some_iff.1 HR.out.2.2).1
                                        have hr38 := (hb38.block _ hgq).trans HR.out.2.2
                                        have t0 := (cell_of_row _ _ 0 _ _ _ hr38).trans (show _ = some (.int .i64 tc.stripe : Value) from rfl)
                                        have t1 := (cell_of_row _ _ 1 _ _ _ hr38).trans (show _ = some (.int .i64 tc.index : Value) from rfl)
                                        have f0 := frozen_of_row _ _ 0 _ _ hr38
                                        have f1 := frozen_of_row _ _ 1 _ _ hr38
                                        go_upto_region 41 with (fail)
                                        obtain ⟨ii, hii, hy0, hy1, hy2⟩ := info_parts Try.info_Cursor
                                        obtain ⟨w39, hw39⟩ : ∃ w39, w39 = (w38.setCell ⟨w35.heap.size, 0, none⟩ (.int .i64 (turnsC q.s q.b.stripes c (j + 1)).stripe)).setCell ⟨w35.heap.size, 1, none⟩ (.int .i64 (turnsC q.s q.b.stripes c (j + 1)).index) := ⟨_, rfl⟩
                                        rw [← hw39]
                                        have e39 : w39 = setAll w35.heap.size 0 [.int .i64 (turnsC q.s q.b.stripes c (j + 1)).stripe, .int .i64 (turnsC q.s q.b.stripes c (j + 1)).index] w38 := hw39
                                        have hrow39 : w39.heap[w35.heap.size]? = some (.cells #[.int .i64 (turnsC q.s q.b.stripes c (j + 1)).stripe, .int .i64 (turnsC q.s q.b.stripes c (j + 1)).index] 44 (0, 0)) := by rw [e39]; exact setAll_2 hr38
                                        have hbel39 : Below w35.heap.size w35 w39 := by rw [e39]; exact setAll_below (Nat.le_refl _) _ _ _ (HR.out.1.trans (hb38.mono HR.out.1.size))
                                        have hA39 : Agree (fun b => b ≠ w35.heap.size) w38 w39 := by rw [e39]; exact fun b hb _ => setAll_other hb _ _ _
                                        have hsz : w38.heap.size ≤ w39.heap.size := by rw [hw39]; simp
                                        have hs39 : w36.heap.size ≤ w39.heap.size := Nat.le_trans HR.out.2.1 (Nat.le_trans hb38.size hsz)
                                        have HO39 := Lib.hid ((HO.out.all hb38).frame (hA39.mono (fun b hb _ => hb.elim (fun h => h.elim) (fun h => by have := (HO.out.lt b h.symm).1; omega))) hsz)
                                        have HLT39 := Lib.hid (fun b (hb : ablk A = some b) => (HO.out.lt b hb).1)
                                        have HBL := Lib.hid hbel39
                                        have HRW := Lib.hid hrow39
                                        clear hw39 e39 hA39 hsz hbel39 hr38 t0 t1 f0 f1 HO HR hb38 hgq HBq HSq HBQ9
                                        have t0 := (cell_of_row _ _ 0 _ _ _ hrow39).trans (show _ = some (.int .i64 (turnsC q.s q.b.stripes c (j + 1)).stripe : Value) from rfl)
                                        have t1 := (cell_of_row _ _ 1 _ _ _ hrow39).trans (show _ = some (.int .i64 (turnsC q.s q.b.stripes c (j + 1)).index : Value) from rfl)
                                        clear hrow39
                                        have hj1 : j + 1 ≤ 9223372036854775807 := by rw [htn] at hjt; exact le_big hjt hnk.2
                                        have hj16 : (j + 1) * 16 ≤ 140737488355328 := by rw [htn] at hjt; exact le_big16 hjt hnk.2
                                        have hbase39 : w36.heap.size ≤ (w39.alloc (.cells #[.int .i64 (turnsC q.s q.b.stripes c (j + 1)).stripe, .int .i64 (turnsC q.s q.b.stripes c (j + 1)).index] 44)).heap.size := Nat.le_trans hs39 (by simp)
                                        go_wp2_with (at_builtin; refine wpList_append1 rfl _ _ 33 rfl ii (.agg #[.int .i64 0, .int .i64 0]) 16 Try.underlying33 hii hy0 hy1 hy2 rfl (by decide) rfl (HO39.out.frame (Agree.alloc _ _ _) (by simp)) w39.heap.size 44 1 _ (turnsC q.s q.b.stripes c (j + 1)) rfl (heap_alloc_new _ _) ⟨rfl, HTC.out.2.2.2⟩ hj1 hj16 hbase39 ?_)
                                        intro A2 c2' w40 hown2 hg2 _
                                        have HO2 := Lib.hid hown2; clear hown2
                                        have hal39 : Below w39.heap.size w39 (w39.alloc (.cells #[.int .i64 (turnsC q.s q.b.stripes c (j + 1)).stripe, .int .i64 (turnsC q.s q.b.stripes c (j + 1)).index] 44)) := (Below.refl _ _).alloc (Nat.le_refl _) _
                                        have hl39 : w35.heap.size < w39.heap.size := (Array.getElem?_eq_some_iff.1 HRW.out).1
                                        have HR2 := Lib.hid (show Below w35.heap.size w35 w40 ∧ w36.heap.size ≤ w40.heap.size ∧ w40.heap[w35.heap.size]? = some (.cells #[.int .i64 (turnsC q.s q.b.stripes c (j + 1)).stripe, .int .i64 (turnsC q.s q.b.stripes c (j + 1)).index] 44 (0, 0)) from
                                          ⟨(HBL.out.trans (hal39.mono (Nat.le_of_lt hl39))).grown hg2 (Nat.le_trans (Nat.le_of_lt h2436) hbase39) (fun k hk => Nat.le_of_lt (Nat.lt_of_lt_of_le h2436 (HLT39.out k hk))), Nat.le_trans hbase39 hg2.size, (Agree.grown (S := fun b => b = w35.heap.size) hg2 (fun b hb e => by
                                            have h1 := HLT39.out b e.symm
                                            rw [hb] at h1
                                            exact absurd h1 (Nat.not_le_of_lt h2436)) _ rfl (Nat.lt_of_lt_of_le hl39 hal39.size)).trans ((hal39.block _ hl39).trans HRW.out)⟩)
                                        clear hg2 hal39 hl39 t0 t1 HRW HBL HLT39 HO39 hbase39 hs39
                                        have HO3 := Lib.hid (show Silo.Own 44 cursorE w40 w36.heap.size (fun _ => False) A2 (j + 1) c2' (piecesX q.s q.b.stripes c (j + 1)) by rw [HTC.out.2.2.1]; exact HO2.out)
                                        clear HO2
                                        go_wp2
                                        refine ⟨⟨j + 1, A2, c2', hjt, by go_num, rfl, HO3, HR2⟩, ?_⟩
                                        go_light
                                        simp [intOf]
                                        omega
                                      · have hjt : j = tn := by rw [htn] at hj ⊢; exact eq_toNat' hjn hj
                                        have HSX := Lib.hid (show Sl true 44 cursorE wq (fun _ => True) A xs.length c' xs by
                                          have h1 := (HO.out.sl (tg := true)).mono (S' := fun _ => True) (fun _ _ _ => trivial)
                                          rw [HXL.out, HTN.out.1, ← hjt]; exact h1)
                                        have HXJ : Hid (xs.length = j) := Lib.hid (by rw [HXL.out, hjt])
                                        clear hjt htn hj
                                        go_wp2
                                        go_meet
                                        case rel => exact ⟨rfl, A, c', by rw [HXJ.out], HSX, HBQ9⟩
                                    · subst hew
                                      have hjt : j = tn := by rw [htn] at hj ⊢; exact Nat.le_zero.1 hj
                                      have HSX := Lib.hid (show Sl true 44 cursorE wq (fun _ => True) A xs.length c' xs by
                                        have h1 := (HO.out.sl (tg := true)).mono (S' := fun _ => True) (fun _ _ _ => trivial)
                                        rw [HXL.out, HTN.out.1, ← hjt]; exact h1)
                                      have HXJ : Hid (xs.length = j) := Lib.hid (by rw [HXL.out, hjt])
                                      clear hjt htn hj
                                      by_cases hjn : (j : Int) < nk
                                      · go_wp2
                                        go_meet
                                        case rel => exact ⟨rfl, A, c', by rw [HXJ.out], HSX, HBQ9⟩
                                      · go_wp2
                                        go_meet
                                        case rel => exact ⟨rfl, A, c', by rw [HXJ.out], HSX, HBQ9⟩
                            case rest =>
                              rename World => w42
                              obtain ⟨rfl, A23, c23, rfl, HSL2, HB42⟩ := hcut
                              have hnew : (ew != ew) = false := by simp
                              go_wp2_with fail
                              refine (num17_c (e := ew)).mono ?_
                              rintro e w43 ⟨rfl, hb43⟩
                              have HB43 := Lib.hid (HB42.out.trans (hb43.mono HB42.out.size))
                              have HSL3 := Lib.hid (HSL2.out.all hb43)
                              clear hb43 HSL2 HB42
                              go_wp2_with fail
                              refine (EqCursors_c (HSL.out.all HB43.out) HSL3.out).mono ?_
                              rintro e w44 ⟨rfl, hb44⟩
                              rw [decide_eq_true rfl]
                              have HB44 := Lib.hid (HB29.out.trans ((HB43.out.trans (hb44.mono HB43.out.size)).mono HB29.out.size))
                              clear hb44 HB43 HSL3
                              have hk1 : k + 1 ≤ 3 := hlt
                              go_wp2
                              refine ⟨⟨k + 1, hk1, by go_num, HB44⟩, ?_⟩
                              go_light
                              simp [intOf]
                              omega
                        · obtain rfl : k = 3 := Nat.le_antisymm hk3 (Nat.le_of_not_lt hlt)
                          have HBX := Lib.hid (HB26e.out.trans (HBk.out.mono HB26e.out.size))
                          have hi1 : i + 1 ≤ N := hl1
                          have hi2 : i + 1 ≤ 8 := hl2
                          go_wp2
                          rw [← HBO.out]
                          (refine ⟨?_, ?measure⟩; (repeat apply Exists.intro); refine ⟨?rel, rfl⟩)
                          case rel => exact ⟨i + 1, hi1, hi2, by go_num, HBX⟩
                          go_light
                          simp [intOf]
                          omega
                · go_wp2_with fail
                  refine wakes17_c.mono ?_
                  rintro ez wz ⟨rfl, hbz⟩
                  have HBZ := Lib.hid (HSo.out.below.trans (hbz.mono HSo.out.below.size)); clear hbz
                  go_wp2
                  go_ret
                  exact ⟨by trivial, HAL.out _ HBZ.out⟩
              · go_wp2_with fail
                refine wakes17_c.mono ?_
                rintro ez wz ⟨rfl, hbz⟩
                have HBZ := Lib.hid (HSo.out.below.trans (hbz.mono HSo.out.below.size)); clear hbz
                go_wp2
                go_ret
                exact ⟨by trivial, HAL.out _ HBZ.out⟩
end Go.Proofs.Ytjeecdoffoahkaa
