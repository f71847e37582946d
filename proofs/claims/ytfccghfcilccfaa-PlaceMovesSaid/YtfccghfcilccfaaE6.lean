/- silolaw15.Heavy: where it is false, all lists are short. -/
import Derived.Test.YtfccghfcilccfaaL3
import Derived.Test.YtfccghfcilccfaaH1
import Derived.Test.YtfccghfcilccfaaB5
import Derived.Deep.CutBlock
import Derived.Deep.Cut
namespace Go.Proofs.Ytfccghfcilccfaa
open Go.RowKit Go.Silo

/-- An ask that is played. -/
def LightA (p : AskP) : Prop := (p.s.length ≤ 3000 ∧ p.x.length ≤ 3000 ∧ p.g.length ≤ 3000 ∧ p.n.length ≤ 3000) ∧ (p.y.live.length ≤ 3000 ∧ p.y.free.length ≤ 3000 ∧ ∀ r ∈ p.y.free, r.length ≤ 3000) ∧ (∀ x ∈ p.x, x.place.length ≤ 3000) ∧ ∀ n ∈ p.n, n.index.length ≤ 3000 ∧ n.to.length ≤ 3000
def RetHeavy15 (p : AskP) (w : World) (e : Ending) (w' : World) : Prop := ∃ v : Bool, e = .returned (.bool v) ∧ Below w.heap.size w w' ∧ (v = false → LightA p)
def RW15 (y : SlotsD) (i : Nat) (v : Value) (_ : World) : Prop := i = 17 → ∃ s : Int, v = .int .i64 s ∧ (y.live.length : Int) + y.free.length ≤ s ∧ s ≤ 900000000000000 ∧ (s < 1048576 → ∀ l ∈ y.free, (l.length : Int) ≤ s)

set_option maxRecDepth 100000 in
set_option maxHeartbeats 4000000 in
theorem Heavy15_c {S : Nat → Prop} {w : World} {p : AskP} {As Ax A0 A1 Ag An : Option Addr} {ns cs nx cx n0 c0 n1 c1 ng cg nn cn : Nat} (hB : AskB p) (h : AskR w S p As ns cs Ax nx cx A0 n0 c0 A1 n1 c1 Ag ng cg An nn cn) :
    Calls Try.prog 42 #[.agg #[.slice As ns cs, .slice Ax nx cx, .slice A0 n0 c0, .slice A1 n1 c1, .slice Ag ng cg, .slice An nn cn]] w (RetHeavy15 p w) := by
  have hr : reachBytes = 140737488351232 := by decide
  have HLS := Lib.hid h.s.len
  have HLX := Lib.hid h.x.len
  have HLG := Lib.hid h.g.len
  have HLN := Lib.hid h.n.len
  obtain ⟨⟨b1, _⟩, ⟨b2, b3⟩, b4, ⟨b5, _⟩, b6, b7⟩ := hB
  rw [hr] at b1 b2 b5 b6
  have hns : ns ≤ 140737488351232 := by have := HLS.out; omega
  have hnx : nx ≤ 140737488351232 := by have := HLX.out; omega
  have hng : ng ≤ 140737488351232 := by have := HLG.out; omega
  have hnn : nn ≤ 140737488351232 := by have := HLN.out; omega
  have HBX := Lib.hid (fun x (hx : x ∈ p.x) => (by have h2 := b3 x hx; unfold StripeB at h2; omega : x.place.length ≤ 140737488351232))
  have HBN := Lib.hid (fun n (hn : n ∈ p.n) => (by have h2 := b7 n hn; unfold NeedB at h2; omega : n.index.length ≤ 140737488351232 ∧ n.to.length ≤ 140737488351232))
  have HSW := Lib.hid (fun W (hW : Below w.heap.size w W) => SlotsWeight_b (w := W) b4 (h.y0.all hW) (h.y1.all hW))
  clear b1 b2 b3 b4 b5 b6 b7 hr
  have HH := Lib.hid h; clear h
  have hrow := heap_alloc_new w (.cells #[.slice As ns cs, .slice Ax nx cx, .slice A0 n0 c0, .slice A1 n1 c1, .slice Ag ng cg, .slice An nn cn] 76)
  have hz : w.heap.size < (w.alloc (.cells #[.slice As ns cs, .slice Ax nx cx, .slice A0 n0 c0, .slice A1 n1 c1, .slice Ag ng cg, .slice An nn cn] 76)).heap.size := by simp
  have hal : Below w.heap.size w (w.alloc (.cells #[.slice As ns cs, .slice Ax nx cx, .slice A0 n0 c0, .slice A1 n1 c1, .slice Ag ng cg, .slice An nn cn] 76)) := (by repeat' (first | (with_reducible exact Below.refl _ _) | (with_reducible refine Below.alloc ?_ ?_ _) | (with_reducible refine Below.drew ?_) | (with_reducible refine below_drewN ?_ _) | (with_reducible refine Below.setCell ?_ ?_ _) | (refine via ?_ (by with_reducible assumption) ?_) | (refine via ?_ (below_ext _ _) ?_) | go_size))
  go_enter Try.func42, Try.ntmps42
  go_upto_region 1 with (fail)
  generalize (w.alloc (.cells #[.slice As ns cs, .slice Ax nx cx, .slice A0 n0 c0, .slice A1 n1 c1, .slice Ag ng cg, .slice An nn cn] 76)) = W0 at *
  have HAL := Lib.hid (fun W (hW : Below W0.heap.size W0 W) => hal.trans (hW.mono (Nat.le_of_lt hz))); clear hal
  have CELLS : Hid (∀ W, Below W0.heap.size W0 W → W.cell? ⟨w.heap.size, 0, none⟩ = some (.slice As ns cs) ∧ W.cell? ⟨w.heap.size, 1, none⟩ = some (.slice Ax nx cx) ∧ W.cell? ⟨w.heap.size, 2, none⟩ = some (.slice A0 n0 c0) ∧ W.cell? ⟨w.heap.size, 3, none⟩ = some (.slice A1 n1 c1) ∧ W.cell? ⟨w.heap.size, 4, none⟩ = some (.slice Ag ng cg) ∧ W.cell? ⟨w.heap.size, 5, none⟩ = some (.slice An nn cn)) := Lib.hid (fun W hW => by
    have r := (hW.block _ hz).trans hrow
    exact ⟨cell_of_row W _ 0 _ _ _ r, cell_of_row W _ 1 _ _ _ r, cell_of_row W _ 2 _ _ _ r, cell_of_row W _ 3 _ _ _ r, cell_of_row W _ 4 _ _ _ r, cell_of_row W _ 5 _ _ _ r⟩)
  clear hrow
  go_wp2_with fail
  refine region_free (by kernel_rfl) (by kernel_rfl) 75 rfl [6, 7, 8, 9, 10, 11, 12, 13, 14, 15, 16, 17, 18, 19, 20, 21, 22, 23, 24, 3] [17] [(23, 17)]
    [(6, [], fun _ => .pointer (some ⟨w.heap.size, 0, none⟩)), (7, [], fun _ => .slice As ns cs), (8, [], fun _ => .int .i64 (ns : Int)), (9, [], fun _ => .pointer (some ⟨w.heap.size, 1, none⟩)), (10, [], fun _ => .slice Ax nx cx), (11, [], fun _ => .int .i64 (nx : Int)), (12, [], fun _ => .int .i64 ((ns : Int) + nx)),
      (13, [], fun _ => .pointer (some ⟨w.heap.size, 4, none⟩)), (14, [], fun _ => .slice Ag ng cg), (15, [], fun _ => .int .i64 (ng : Int)), (16, [], fun _ => .int .i64 ((ns : Int) + nx + ng)), (17, [], fun _ => .pointer (some ⟨w.heap.size, 5, none⟩)), (18, [], fun _ => .slice An nn cn), (19, [], fun _ => .int .i64 (nn : Int)), (20, [], fun _ => .int .i64 ((ns : Int) + nx + ng + nn)),
      (21, [], fun _ => .pointer (some ⟨w.heap.size, 2, none⟩)), (22, [], fun _ => .agg #[.slice A0 n0 c0, .slice A1 n1 c1]), (24, [17], fun l => .int .i64 ((ns : Int) + nx + ng + nn + intOf (l.getD 0 undef))), (3, [17], fun l => .int .i64 ((ns : Int) + nx + ng + nn + intOf (l.getD 0 undef)))]
    [] [] [[], [6], [7], [], [9], [10], [8, 11], [], [13], [14], [12, 15], [], [17], [18], [16, 19], [], [21], [22], [20, 23], [24]] (WdB W0 (RW15 p.y)) (by kernel_rfl) .init ⟨?_, ?_, ?_, ?_, ?_, ?_, ?_, ?_, ?_, ?_, ?_, ?_, ?_, ?_, ?_, ?_, ?_, ?_, ?_, ?_, trivial⟩ ?_
  · (refine OpH.rd rfl rfl (fun ρ us w6 ho ht hc hl hsrc hW => ?_); have e1 := (ho 1 rfl).trans (show _ = (.pointer (some ⟨w.heap.size, 0, none⟩) : Value) from rfl); clear ht ho; simp only [execOp, e1]; go_simp; try rfl)
  · (refine OpH.rd rfl rfl (fun ρ us w6 ho ht hc hl hsrc hW => ?_); have e6 := (ht 6 (by decide)).trans (show _ = (.pointer (some ⟨w.heap.size, 0, none⟩) : Value) from rfl); obtain ⟨y0, y1, y2, y3, y4, y5⟩ := CELLS.out w6 hW.1; clear ht ho; simp only [execOp, e6]; go_simp; try rfl)
  · (refine OpH.rd rfl rfl (fun ρ us w6 ho ht hc hl hsrc hW => ?_); have e7 := (ht 7 (by decide)).trans (show _ = (.slice As ns cs : Value) from rfl); clear ht ho; simp only [execOp]; go_simp; try rfl)
  · (refine OpH.rd rfl rfl (fun ρ us w6 ho ht hc hl hsrc hW => ?_); have e1 := (ho 1 rfl).trans (show _ = (.pointer (some ⟨w.heap.size, 0, none⟩) : Value) from rfl); clear ht ho; simp only [execOp, e1]; go_simp; try rfl)
  · (refine OpH.rd rfl rfl (fun ρ us w6 ho ht hc hl hsrc hW => ?_); have e9 := (ht 9 (by decide)).trans (show _ = (.pointer (some ⟨w.heap.size, 1, none⟩) : Value) from rfl); obtain ⟨y0, y1, y2, y3, y4, y5⟩ := CELLS.out w6 hW.1; clear ht ho; simp only [execOp, e9]; go_simp; try rfl)
  · (refine OpH.rd rfl rfl (fun ρ us w6 ho ht hc hl hsrc hW => ?_); have e10 := (ht 10 (by decide)).trans (show _ = (.slice Ax nx cx : Value) from rfl); clear ht ho; simp only [execOp]; go_simp; try rfl)
  · (refine OpH.rd rfl rfl (fun ρ us w6 ho ht hc hl hsrc hW => ?_); have e8 := (ht 8 (by decide)).trans (show _ = (.int .i64 (ns : Int) : Value) from rfl); have e11 := (ht 11 (by decide)).trans (show _ = (.int .i64 (nx : Int) : Value) from rfl); clear ht ho; simp only [execOp, e8, e11]; go_simp; exact congrArg (Value.int .i64) (Go.IntWalk.i64_in _ (by omega)))
  · (refine OpH.rd rfl rfl (fun ρ us w6 ho ht hc hl hsrc hW => ?_); have e1 := (ho 1 rfl).trans (show _ = (.pointer (some ⟨w.heap.size, 0, none⟩) : Value) from rfl); clear ht ho; simp only [execOp, e1]; go_simp; try rfl)
  · (refine OpH.rd rfl rfl (fun ρ us w6 ho ht hc hl hsrc hW => ?_); have e13 := (ht 13 (by decide)).trans (show _ = (.pointer (some ⟨w.heap.size, 4, none⟩) : Value) from rfl); obtain ⟨y0, y1, y2, y3, y4, y5⟩ := CELLS.out w6 hW.1; clear ht ho; simp only [execOp, e13]; go_simp; try rfl)
  · (refine OpH.rd rfl rfl (fun ρ us w6 ho ht hc hl hsrc hW => ?_); have e14 := (ht 14 (by decide)).trans (show _ = (.slice Ag ng cg : Value) from rfl); clear ht ho; simp only [execOp]; go_simp; try rfl)
  · (refine OpH.rd rfl rfl (fun ρ us w6 ho ht hc hl hsrc hW => ?_); have e12 := (ht 12 (by decide)).trans (show _ = (.int .i64 ((ns : Int) + nx) : Value) from rfl); have e15 := (ht 15 (by decide)).trans (show _ = (.int .i64 (ng : Int) : Value) from rfl); clear ht ho; simp only [execOp, e12, e15]; go_simp; exact congrArg (Value.int .i64) (Go.IntWalk.i64_in _ (by omega)))
  · (refine OpH.rd rfl rfl (fun ρ us w6 ho ht hc hl hsrc hW => ?_); have e1 := (ho 1 rfl).trans (show _ = (.pointer (some ⟨w.heap.size, 0, none⟩) : Value) from rfl); clear ht ho; simp only [execOp, e1]; go_simp; try rfl)
  · (refine OpH.rd rfl rfl (fun ρ us w6 ho ht hc hl hsrc hW => ?_); have e17 := (ht 17 (by decide)).trans (show _ = (.pointer (some ⟨w.heap.size, 5, none⟩) : Value) from rfl); obtain ⟨y0, y1, y2, y3, y4, y5⟩ := CELLS.out w6 hW.1; clear ht ho; simp only [execOp, e17]; go_simp; try rfl)
  · (refine OpH.rd rfl rfl (fun ρ us w6 ho ht hc hl hsrc hW => ?_); have e18 := (ht 18 (by decide)).trans (show _ = (.slice An nn cn : Value) from rfl); clear ht ho; simp only [execOp]; go_simp; try rfl)
  · (refine OpH.rd rfl rfl (fun ρ us w6 ho ht hc hl hsrc hW => ?_); have e16 := (ht 16 (by decide)).trans (show _ = (.int .i64 ((ns : Int) + nx + ng) : Value) from rfl); have e19 := (ht 19 (by decide)).trans (show _ = (.int .i64 (nn : Int) : Value) from rfl); clear ht ho; simp only [execOp, e16, e19]; go_simp; exact congrArg (Value.int .i64) (Go.IntWalk.i64_in _ (by omega)))
  · (refine OpH.rd rfl rfl (fun ρ us w6 ho ht hc hl hsrc hW => ?_); have e1 := (ho 1 rfl).trans (show _ = (.pointer (some ⟨w.heap.size, 0, none⟩) : Value) from rfl); clear ht ho; simp only [execOp, e1]; go_simp; try rfl)
  · (refine OpH.rd rfl rfl (fun ρ us w6 ho ht hc hl hsrc hW => ?_); have e21 := (ht 21 (by decide)).trans (show _ = (.pointer (some ⟨w.heap.size, 2, none⟩) : Value) from rfl); obtain ⟨y0, y1, y2, y3, y4, y5⟩ := CELLS.out w6 hW.1; clear ht ho; simp only [execOp, e21]; go_simp; try rfl)
  · refine OpH.wr rfl (fun Z us w6 ho ht hni hlim hreq hW K hK => ?_)
    have e22 := (ht 22 (by decide)).trans (show _ = (.agg #[.slice A0 n0 c0, .slice A1 n1 c1] : Value) from rfl)
    have hcl := HSW.out w6 (HAL.out _ hW.1)
    refine step_call rfl 99 #[.tmp 22] #[62] rfl Try.func99 (by kernel_rfl) (by kernel_rfl) #[.agg #[.slice A0 n0 c0, .slice A1 n1 c1]] (by simp [e22]) (hcl) ?_
    rintro e w7 ⟨v, rfl, hb7, hv1, hv2, hv3⟩
    exact ⟨_, rfl, hK _ _ (hW.snoc hb7 (fun j v h => h) (fun _ => ⟨v, rfl, hv1, hv2, hv3⟩))⟩
  · refine OpH.rd rfl rfl (fun ρ us w6 ho ht hc hl hsrc hW => ?_)
    obtain ⟨s, es, hs1, hs2, _⟩ := hW.at_ (hsrc 17 (by exact (List.mem_singleton.2 rfl : (17 : Nat) ∈ [17]))) rfl
    have e20 := (ht 20 (by decide)).trans (show _ = (.int .i64 ((ns : Int) + nx + ng + nn) : Value) from rfl)
    have e23 := ((ht 23 (by decide)).trans (show _ = (us.lookup 17).getD undef from rfl)).trans es
    change _ = Result.ok (Next.value (.int .i64 ((ns : Int) + nx + ng + nn + intOf ((us.lookup 17).getD undef)))) w6
    rw [es]
    have hi : intOf (.int .i64 s) = s := rfl
    rw [hi]
    clear ht ho hl hsrc hW es
    have hs0 : 0 ≤ s := by omega
    clear hs1
    simp only [execOp, e20, e23]
    go_simp
    exact Go.IntWalk.i64_in _ (by omega)
  · (refine OpH.rd rfl rfl (fun ρ us w6 ho ht hc hl hsrc hW => ?_); have e24 := (ht 24 (by decide)).trans (show _ = (.int .i64 ((ns : Int) + nx + ng + nn + intOf ((us.lookup 17).getD undef)) : Value) from rfl); clear ht ho; simp only [execOp, e24]; go_simp; try rfl)
  · intro us w7 hmem hW
    obtain ⟨s, es, hs1, hs2, hs3⟩ := hW.at_ (hmem 17 (by decide)) rfl
    simp only [putAll, List.map_cons, List.map_nil, List.foldl_cons, List.foldl_nil, Act.put, List.setIfInBounds_toArray, List.set_cons_succ, List.set_cons_zero]
    generalize hsv : slotAt _ _ us = sv
    have hv3 : sv 3 = .int .i64 ((ns : Int) + nx + ng + nn + s) := by rw [← hsv]; show Value.int .i64 ((ns : Int) + nx + ng + nn + intOf ((us.lookup 17).getD undef)) = _; rw [es]; rfl
    rw [hv3]
    have HB7 := Lib.hid hW.1
    have HS1 := Lib.hid hs1; clear hs1
    have HS3 := Lib.hid hs3; clear hs3
    have hs0 : 0 ≤ s := by have := HS1.out; omega
    obtain ⟨y0, y1, y2, y3, y4, y5⟩ := CELLS.out w7 hW.1
    have HXA := Lib.hid (HH.out.x.all (HAL.out _ hW.1))
    clear hsv hv3 hmem hW es
    generalize hv0 : (ns : Int) + nx + ng + nn + s = v0 at *
    have HV0 := Lib.hid hv0; clear hv0
    have hv01 : 0 ≤ v0 := by have := HV0.out; omega
    have hv02 : v0 ≤ 1500000000000000 := by have := HV0.out; omega
    go_upto_block 0 with (fail)
    go_cut [3] from 5 (fun s3 V => ∃ v : Int, s3 = .int .i64 v ∧ v0 ≤ v ∧ v ≤ 1700000000000000 ∧ Hid (v < 1048576 → ∀ x ∈ p.x, (x.place.length : Int) ≤ v) ∧ V = w7)
    case first =>
      go_wp2_with fail
      go_loopw [3, 4] (fun t i wr => ∃ k : Nat, ∃ v : Int, k ≤ nx ∧ i = .int .i64 k ∧ t = .int .i64 v ∧ v0 ≤ v ∧ v ≤ 1700000000000000 ∧ Hid (∀ j, j < k → ((p.x.getD j default).place.length : Int) ≤ v) ∧ wr = w7) (fun _ i _ => nx - (intOf i).toNat)
      case atStart => exact ⟨0, _, Nat.zero_le _, rfl, rfl, Int.le_refl _, by omega, Lib.hid (fun j hj => by omega), by trivial⟩
      case round =>
        obtain ⟨k, v, hk, rfl, rfl, hva, hvb, HV, rfl⟩ := hrel
        by_cases hlt : k < nx
        · by_cases hv : v < 1048576
          · obtain ⟨b, off, A3, n3, c3, rfl, _, hbl, j1, j2, j3, hpl, q0, q1, q2, q3, _⟩ := HXA.out.stripe_at hlt
            have hn3 : n3 ≤ 140737488351232 := by
              have := HBX.out _ (getD_mem (d := default) (show k < p.x.length by have := HLX.out; omega))
              have := hpl.len; omega
            have HPL := Lib.hid hpl.len
            clear hpl
            go_wp2
            go_roundw
            case rel => exact ⟨k + 1, _, by omega, by go_num, rfl, by omega, by omega, Lib.hid (fun j hj => by
              rcases Nat.lt_or_ge j k with h | h
              · have := HV.out j h; omega
              · obtain rfl : j = k := by omega
                have := HPL.out; omega), by trivial⟩
            case measure => simp [intOf]; omega
          · go_wp2
            go_meet
            case rel => exact ⟨v, rfl, hva, hvb, Lib.hid (fun h => absurd h (by omega)), by trivial⟩
        · have HVX : Hid (v < 1048576 → ∀ x ∈ p.x, (x.place.length : Int) ≤ v) := Lib.hid (fun _ x hx => by
            obtain ⟨j, hj⟩ := List.mem_iff_getElem?.1 hx
            have hjl := (List.getElem?_eq_some_iff.1 hj).1
            have := HV.out j (by have := HLX.out; omega)
            rw [List.getD_eq_getElem?_getD, hj] at this
            exact this)
          go_wp2
          go_meet
          case rel => exact ⟨v, rfl, hva, hvb, HVX, by trivial⟩
    case rest =>
      obtain ⟨v1, rfl, hva1, hvb1, HVX, rfl⟩ := hcut
      go_wp2_with fail
      go_loopw [3, 5] (fun t i wr => ∃ k : Nat, ∃ v : Int, k ≤ nn ∧ i = .int .i64 k ∧ t = .int .i64 v ∧ v1 ≤ v ∧ v ≤ 2100000000000000 ∧ Hid (∀ j, j < k → ((p.n.getD j default).index.length : Int) ≤ v ∧ ((p.n.getD j default).to.length : Int) ≤ v) ∧ Hid (Below W0.heap.size W0 wr)) (fun _ i _ => nn - (intOf i).toNat)
      case atStart => exact ⟨0, _, Nat.zero_le _, rfl, rfl, Int.le_refl _, by omega, Lib.hid (fun j hj => by omega), HB7⟩
      case round =>
        clear y0 y1 y2 y3 y4 y5
        obtain ⟨k, v, hk, rfl, rfl, hva, hvb, HV, HB⟩ := hrel
        obtain ⟨y0, y1, y2, y3, y4, y5⟩ := CELLS.out wr HB.out
        have hzr : w.heap.size < wr.heap.size := Nat.lt_of_lt_of_le hz HB.out.size
        by_cases hlt : k < nn
        · by_cases hv : v < 1048576
          · obtain ⟨b, off, A1', n1', c1', A2', n2', c2', rfl, _, hbl, j1, hpi, hpt, q0, q1, q2, _⟩ := (HH.out.n.all (HAL.out _ HB.out)).need_at hlt
            have hbd := HBN.out _ (getD_mem (d := default) (show k < p.n.length by have := HLN.out; omega))
            have hn1' : n1' ≤ 140737488351232 := by have := hpi.len; omega
            have hn2' : n2' ≤ 140737488351232 := by have := hpt.len; omega
            have HPI := Lib.hid hpi.len
            have HPT := Lib.hid hpt.len
            clear hpi hpt hbd
            go_wp2_with fail
            have hext := cell_ext wr
            refine region_ext (by kernel_rfl) (by kernel_rfl) ?_
            repeat (go_big_quiet_step (fail))
            refine wpQuiet_nil ?_
            rintro _ ⟨X, rfl⟩
            have HB2 := Lib.hid (HB.out.trans ((below_ext wr X).mono HB.out.size))
            clear hext y0 y1 y2 y3 y4 y5 q0 q1 q2
            generalize wr.ext X = w8 at *
            go_wp2
            go_roundw
            case rel => exact ⟨k + 1, _, by omega, by go_num, rfl, by omega, by omega, Lib.hid (fun j hj => by
              rcases Nat.lt_or_ge j k with h | h
              · have := HV.out j h; omega
              · obtain rfl : j = k := by omega
                have := HPI.out; have := HPT.out; omega), HB2⟩
            case measure => simp [intOf]; omega
          · go_wp2
            go_ret
            exact ⟨_, rfl, HAL.out _ HB.out, fun h => by exfalso; simp at h; omega⟩
        · have HVN : Hid (∀ n ∈ p.n, (n.index.length : Int) ≤ v ∧ (n.to.length : Int) ≤ v) := Lib.hid (fun x hx => by
            obtain ⟨j, hj⟩ := List.mem_iff_getElem?.1 hx
            have hjl := (List.getElem?_eq_some_iff.1 hj).1
            have := HV.out j (by have := HLN.out; omega)
            rw [List.getD_eq_getElem?_getD, hj] at this
            exact this)
          go_wp2
          go_ret
          exact ⟨_, rfl, HAL.out _ HB.out, fun h => by
            have h3 : v ≤ 3000 := by simpa using h
            have e0 := HV0.out
            have e1 := HS1.out
            refine ⟨⟨by have := HLS.out; omega, by have := HLX.out; omega, by have := HLG.out; omega, by have := HLN.out; omega⟩, ⟨by omega, by omega, fun r hr => by have := HS3.out (by omega) r hr; omega⟩, fun x hx => by have := HVX.out (by omega) x hx; omega, fun n hn => by have := HVN.out n hn; omega⟩⟩
end Go.Proofs.Ytfccghfcilccfaa
