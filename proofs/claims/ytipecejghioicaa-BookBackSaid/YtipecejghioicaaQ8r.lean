/- book.stripes: may a book's stripes be? Printed by gen_q8.py. -/
import Derived.Test.YtipecejghioicaaQ7r
import Derived.Test.YtipecejghioicaaE2r
import Derived.Test.YtipecejghioicaaB6r
import Derived.Deep.CutBlock
import Derived.Deep.Cut
namespace Go.Proofs.Ytipecejghioicaa
open Go.RowKit Go.Silo

set_option maxRecDepth 100000 in
set_option maxHeartbeats 16000000 in
theorem bookStripes_c {tg tg0 : Bool} {S : Nat → Prop} {w : World} {A0 A1 A2 : Option Addr} {n0 c0 n1 c1 n2 c2 : Nat} {s : Shape} {l : List Stripe} {nx : Int} (hsi : I64 s.K ∧ I64 s.M ∧ I64 s.size)
    (h : Sl tg 69 (stripeE tg0) w S A0 n0 c0 l) (hfew : (slotsTo l l.length).length ≤ 1000000) :
    Calls Try.prog 27 #[.agg #[.int .i64 s.K, .int .i64 s.M, .int .i64 s.size], .agg #[.slice A0 n0 c0, .slice A1 n1 c1, .slice A2 n2 c2, .int .i64 nx]] w (RetV (.bool (stripesOk s nx l)) w) := by
  have HL := Lib.hid h.len
  have hcap : n0 ≤ 9223372036854775807 := Nat.le_trans h.le h.cap
  have HR0 := Lib.hid (fun W (hW : Below w.heap.size w W) => h.all hW)
  have HSI := Lib.hid hsi; clear hsi
  obtain ⟨R, hR⟩ : ∃ R, R = stripesOk s nx l := ⟨_, rfl⟩
  rw [← hR]
  have HR := Lib.hid hR; clear hR
  clear h
  go_enter Try.func27, Try.ntmps27
  have hmk := fun W : World => run_makeMap (P := Try.prog) 99 W
  go_upto_region 2 with (fail)
  clear hmk
  have hbw : Below w.heap.size w (((w.alloc (.cells #[.int .i64 s.K, .int .i64 s.M, .int .i64 s.size] 23)).alloc (.cells #[.slice A0 n0 c0, .slice A1 n1 c1, .slice A2 n2 c2, .int .i64 nx] 28)).alloc (.map #[] 0)) := (by repeat' (first | (with_reducible exact Below.refl _ _) | (with_reducible refine Below.alloc ?_ ?_ _) | (with_reducible refine Below.drew ?_) | (with_reducible refine below_drewN ?_ _) | (with_reducible refine Below.setCell ?_ ?_ _) | (refine via ?_ (by with_reducible assumption) ?_) | (refine via ?_ (below_ext _ _) ?_) | go_size))
  have r0 : (((w.alloc (.cells #[.int .i64 s.K, .int .i64 s.M, .int .i64 s.size] 23)).alloc (.cells #[.slice A0 n0 c0, .slice A1 n1 c1, .slice A2 n2 c2, .int .i64 nx] 28)).alloc (.map #[] 0)).heap[w.heap.size]? = some (.cells #[.int .i64 s.K, .int .i64 s.M, .int .i64 s.size] 23 (0, 0)) := by
    rw [Below.heap_alloc _ _ _ (by simp; omega), Below.heap_alloc _ _ _ (by simp)]; exact heap_alloc_new _ _
  have r1 : (((w.alloc (.cells #[.int .i64 s.K, .int .i64 s.M, .int .i64 s.size] 23)).alloc (.cells #[.slice A0 n0 c0, .slice A1 n1 c1, .slice A2 n2 c2, .int .i64 nx] 28)).alloc (.map #[] 0)).heap[w.heap.size + 1]? = some (.cells #[.slice A0 n0 c0, .slice A1 n1 c1, .slice A2 n2 c2, .int .i64 nx] 28 (0, 0)) := by
    rw [Below.heap_alloc _ _ _ (by simp)]
    have := heap_alloc_new (w.alloc (.cells #[.int .i64 s.K, .int .i64 s.M, .int .i64 s.size] 23)) (.cells #[.slice A0 n0 c0, .slice A1 n1 c1, .slice A2 n2 c2, .int .i64 nx] 28)
    rwa [World.size_alloc] at this
  have hset := SetAt.made (P := Try.prog) (k := 67) (e := 4) (w := ((w.alloc (.cells #[.int .i64 s.K, .int .i64 s.M, .int .i64 s.size] 23)).alloc (.cells #[.slice A0 n0 c0, .slice A1 n1 c1, .slice A2 n2 c2, .int .i64 nx] 28)))
  have hsz : (((w.alloc (.cells #[.int .i64 s.K, .int .i64 s.M, .int .i64 s.size] 23)).alloc (.cells #[.slice A0 n0 c0, .slice A1 n1 c1, .slice A2 n2 c2, .int .i64 nx] 28)).alloc (.map #[] 0)).heap.size = w.heap.size + 3 := by simp
  simp only [World.size_alloc] at hset
  generalize (((w.alloc (.cells #[.int .i64 s.K, .int .i64 s.M, .int .i64 s.size] 23)).alloc (.cells #[.slice A0 n0 c0, .slice A1 n1 c1, .slice A2 n2 c2, .int .i64 nx] 28)).alloc (.map #[] 0)) = w2 at *
  generalize hm : w.heap.size + 1 + 1 = m at *
  have hmw : w.heap.size ≤ m := by omega
  have hm1 : w.heap.size + 1 < m := by omega
  have hm2 : m < w2.heap.size := by omega
  have hm3 : w.heap.size < m := by omega
  clear hm hsz
  have HBW := Lib.hid (fun V (hV : Below m w2 V) => hbw.trans (hV.mono hmw)); clear hbw
  have HROW := Lib.hid (fun V (hV : Below m w2 V) => And.intro ((hV.block _ hm3).trans r0) ((hV.block _ hm1).trans r1))
  have HSET := Lib.hid hset; clear hset
  have q1 := cell_of_row _ _ 0 _ _ _ r1
  clear r0 r1
  go_wp2_with fail
  clear q1
  go_loopw [14] (fun iv wr => ∃ k : Nat, k ≤ n0 ∧ iv = .int .i64 k ∧ Hid (Below m w2 wr) ∧ Hid (SetAt Try.prog 67 4 wr m (slotsTo l k).length (keysS (slotsTo l k))) ∧ Hid (∀ j, j < k → stripeAt s nx l j = true) ∧ Hid (apartL (slotsTo l k) = true)) (fun iv _ => n0 - (intOf iv).toNat)
  case atStart => exact ⟨0, Nat.zero_le _, rfl, Lib.hid (Below.refl _ _), HSET, Lib.hid (fun j hj => by omega), Lib.hid (by simp [slotsTo, apartL])⟩
  case round =>
    rename World => wo
    clear HSET
    obtain ⟨k, hk, rfl, HB, HST, HA, HND⟩ := hrel
    by_cases hlt : k < n0
    · obtain ⟨bE, oE, A3, n3, c3, rfl, _, hbE, i0, i1, i2, hl3, u0, u1, u2, u3, _⟩ := (HR0.out wo (HBW.out wo HB.out)).stripe_at hlt
      obtain ⟨bE', oE', A3', n3', c3', eE, _, hbE', _, _, _, hl3', _, _, _, u3', _⟩ := (HR0.out w (Below.refl _ _)).stripe_at hlt
      injection eE with eE; injection eE with e1 e2 _; subst e1; subst e2
      have e3 := (((HBW.out wo HB.out).cell (p := ⟨bE, oE + k * 4 + 3, none⟩) hbE').trans u3').symm.trans u3
      injection e3 with e3; injection e3 with e31 e32 e33; have e31 := e31.symm; have e32 := e32.symm; have e33 := e33.symm; subst e31; subst e32; subst e33
      clear hbE' u3'
      have hp : 0 < k → wo.cell? ⟨bE, oE + (k - 1) * 4, none⟩ = some (.int .i64 (l.getD (k - 1) default).id) := fun h0 => by
        obtain ⟨b', off', A', n', c', e, _, _, _, _, _, _, hd, _⟩ := (HR0.out wo (HBW.out wo HB.out)).stripe_at (k := k - 1) (by omega)
        injection e with e; injection e with e1 e2 _; subst e1; subst e2
        exact hd
      obtain ⟨pd, hpd⟩ : ∃ y, y = (l.getD (k - 1) default).id := ⟨_, rfl⟩
      rw [← hpd] at hp
      have hat : stripeAt s nx l k = (stripeOk s (l.getD k default) && (decide ((l.getD k default).id < nx) && (decide (k = 0) || decide (pd < (l.getD k default).id)))) := by rw [hpd]; rfl
      have HLN := Lib.hid hl3.len
      have HXE : ∃ x, x = l.getD k default := ⟨_, rfl⟩
      obtain ⟨x, hx⟩ := HXE
      rw [← hx] at hat HLN hl3 hl3' i0 i1 i2 u0 u1 u2
      have HXD := Lib.hid hx; clear hx hpd
      have HLW := Lib.hid (fun V (hV : Below m w2 V) => hl3'.all (HBW.out V hV)); clear hl3'
      have HI := Lib.hid (And.intro i0 (And.intro i1 i2)); clear i0 i1 i2
      have HAT := Lib.hid hat; clear hat
      go_upto_region 5 with (fail)
      have hal : Below wo.heap.size wo (wo.alloc (.cells #[.int .i64 x.id, .int .i64 x.len, .int .i64 x.gen, .slice A3 n3 c3] 69)) := (Below.refl _ _).alloc (Nat.le_refl _) _
      have hrow := heap_alloc_new wo (.cells #[.int .i64 x.id, .int .i64 x.len, .int .i64 x.gen, .slice A3 n3 c3] 69)
      have hzl : wo.heap.size < (wo.alloc (.cells #[.int .i64 x.id, .int .i64 x.len, .int .i64 x.gen, .slice A3 n3 c3] 69)).heap.size := by simp
      generalize (wo.alloc (.cells #[.int .i64 x.id, .int .i64 x.len, .int .i64 x.gen, .slice A3 n3 c3] 69)) = w4 at *
      have hmo : m ≤ wo.heap.size := by have := HB.out.size; omega
      have hm4 : m ≤ w4.heap.size := by have := hal.size; omega
      have HB4 := Lib.hid (HB.out.trans (hal.mono hmo))
      have HST4 := Lib.hid (HST.out.all hal)
      have HL34 := Lib.hid (hl3.all hal); clear hl3
      have hbE4 : bE < w4.heap.size := by omega
      have hp2 := fun h0 => (hal.cell (p := ⟨bE, oE + (k - 1) * 4, none⟩) hbE).trans (hp h0)
      clear hal u0 u1 u2 u3 hp HST
      generalize wo.heap.size = g7 at *
      have ROW7 := Lib.hid (fun V (hV : Below w4.heap.size w4 V) => (hV.block _ hzl).trans hrow)
      clear hrow hbE
      go_cut [45] from 19 to 45 (fun t V => t = .bool (!stripeAt s nx l k) ∧ Hid (Below w4.heap.size w4 V))
      case first =>
        clear HA HND
        generalize hso : stripeOk s x = so at *
        have HSO := Lib.hid hso; clear hso
        have hA1 := HAT.out
        clear HAT
        cases so with
        | false =>
          have HAX : Hid (stripeAt s nx l k = false) := Lib.hid hA1
          clear hA1 hp2
          go_wp2_with fail
          refine region_free (by kernel_rfl) (by kernel_rfl) 65 rfl [19, 20, 21, 22, 23, 24, 25, 26, 27, 28, 29, 30, 31, 32, 33, 34, 35, 36, 37, 38, 39, 40, 41, 42, 43, 44, 45] [2] [(21, 2)]
            [(19, [], fun _ => .agg #[.int .i64 s.K, .int .i64 s.M, .int .i64 s.size]), (20, [], fun _ => .agg #[.int .i64 x.id, .int .i64 x.len, .int .i64 x.gen, .slice A3 n3 c3]), (22, [2], fun _ => .bool true), (23, [2], fun _ => .bool true), (24, [], fun _ => undef), (25, [], fun _ => undef), (26, [], fun _ => undef), (27, [], fun _ => undef), (28, [], fun _ => undef), (29, [], fun _ => .bool true), (30, [], fun _ => .bool true), (31, [], fun _ => undef), (32, [], fun _ => undef), (33, [], fun _ => undef), (34, [], fun _ => undef), (35, [], fun _ => undef), (36, [], fun _ => undef), (37, [], fun _ => undef), (38, [], fun _ => undef), (39, [], fun _ => undef), (40, [], fun _ => undef), (41, [], fun _ => undef), (42, [], fun _ => undef), (43, [], fun _ => undef), (44, [], fun _ => undef), (45, [], fun _ => .bool true)]
            [] [] [[], [], [19, 20], [21], [22], [23], [24, 23], [23], [26, 23], [25, 27, 23], [23, 28], [29], [30], [31, 30], [32, 30], [33], [34, 33], [33], [36, 33], [33], [38, 33], [37, 39, 33], [40, 33], [41, 33], [35, 42, 33], [33, 43, 30], [30, 44]]
            (WdB w4 (fun i v _ => i = 2 → v = .bool false)) (by kernel_rfl) .init ⟨?_, ?_, ?_, ?_, ?_, ?_, ?_, ?_, ?_, ?_, ?_, ?_, ?_, ?_, ?_, ?_, ?_, ?_, ?_, ?_, ?_, ?_, ?_, ?_, ?_, ?_, ?_, trivial⟩ ?_
          -- FAST27 cdot
          · (refine OpH.rd rfl rfl (fun ρ us w6 ho ht hc hl hsrc hW => ?_); have e2 := (ho 2 rfl).trans (show _ = (.pointer (some ⟨w.heap.size, 0, none⟩) : Value) from rfl); have rr := HROW.out w6 (HB4.out.trans (hW.1.mono hm4)); have z0 := cell_of_row _ _ 0 _ _ _ rr.1; have z1 := cell_of_row _ _ 1 _ _ _ rr.1; have z2 := cell_of_row _ _ 2 _ _ _ rr.1; have x0 := cell_of_row _ _ 0 _ _ _ rr.2; have x3 := cell_of_row _ _ 3 _ _ _ rr.2; clear rr; clear ht ho; simp only [execOp, e2]; go_simp; try rfl)
          · (refine OpH.rd rfl rfl (fun ρ us w6 ho ht hc hl hsrc hW => ?_); have e7 := (ho 7 rfl).trans (show _ = (.pointer (some ⟨g7, 0, none⟩) : Value) from rfl); have r7 := ROW7.out w6 hW.1; have z0 := cell_of_row _ _ 0 _ _ _ r7; have z1 := cell_of_row _ _ 1 _ _ _ r7; have z2 := cell_of_row _ _ 2 _ _ _ r7; have z3 := cell_of_row _ _ 3 _ _ _ r7; clear r7; clear ht ho; simp only [execOp, e7]; go_simp; try rfl)
          · refine OpH.wr rfl (fun Z us w6 ho ht hni hlim hreq hW K hK => ?_)
            have e19 := (ht 19 (by decide)).trans (show _ = (.agg #[.int .i64 s.K, .int .i64 s.M, .int .i64 s.size] : Value) from rfl)
            have e20 := (ht 20 (by decide)).trans (show _ = (.agg #[.int .i64 x.id, .int .i64 x.len, .int .i64 x.gen, .slice A3 n3 c3] : Value) from rfl)
            have hcl := placeMay_c (w := w6) (s := s) (x := x) HSI.out HI.out (HL34.out.all hW.1)
            rw [HSO.out] at hcl
            refine step_call rfl 51 #[.tmp 19, .tmp 20] #[23, 69] rfl Try.func51 (by kernel_rfl) (by kernel_rfl) #[.agg #[.int .i64 s.K, .int .i64 s.M, .int .i64 s.size], .agg #[.int .i64 x.id, .int .i64 x.len, .int .i64 x.gen, .slice A3 n3 c3]] (by simp [e19, e20]; try first | done | rfl | exact ⟨rfl, rfl⟩) (hcl) ?_
            rintro e w7 ⟨rfl, hb7⟩
            exact ⟨_, rfl, hK _ _ (hW.snoc hb7 (fun j v h => h) (fun _ => rfl))⟩
          · (refine OpH.rd rfl rfl (fun ρ us w6 ho ht hc hl hsrc hW => ?_); have e21 := (ht 21 (by decide)).trans (show _ = ((us.lookup 2).getD undef : Value) from rfl); rw [(hW.at_ (hsrc 2 (by exact (List.mem_singleton.2 rfl : (2 : Nat) ∈ [2])))) rfl] at e21; clear ht ho; simp only [execOp, e21]; go_simp; try rfl)
          · (refine OpH.rd rfl rfl (fun ρ us w6 ho ht hc hl hsrc hW => ?_); have e22 := (ht 22 (by decide)).trans (show _ = (.bool true : Value) from rfl); clear ht ho; simp only [execOp, e22]; go_simp; try rfl)
          · (exact OpH.rdn rfl 4 23 false rfl rfl (by decide) (fun _ _ _ => rfl) (fun _ => rfl))
          · (exact OpH.rdn rfl 4 23 false rfl rfl (by decide) (fun _ _ _ => rfl) (fun _ => rfl))
          · (exact OpH.rdn rfl 4 23 false rfl rfl (by decide) (fun _ _ _ => rfl) (fun _ => rfl))
          · (exact OpH.rdn rfl 4 23 false rfl rfl (by decide) (fun _ _ _ => rfl) (fun _ => rfl))
          · (exact OpH.rdn rfl 4 23 false rfl rfl (by decide) (fun _ _ _ => rfl) (fun _ => rfl))
          · (refine OpH.rd rfl rfl (fun ρ us w6 ho ht hc hl hsrc hW => ?_); have e23 := (ht 23 (by decide)).trans (show _ = (.bool true : Value) from rfl); have e28 := (ht 28 (by decide)).trans (show _ = (undef : Value) from rfl); clear ht ho; simp only [execOp, e23, e28]; go_simp; try rfl)
          · (refine OpH.rd rfl rfl (fun ρ us w6 ho ht hc hl hsrc hW => ?_); have e29 := (ht 29 (by decide)).trans (show _ = (.bool true : Value) from rfl); clear ht ho; simp only [execOp, e29]; go_simp; try rfl)
          · (exact OpH.rdn rfl 11 30 false rfl rfl (by decide) (fun _ _ _ => rfl) (fun _ => rfl))
          · (exact OpH.rdn rfl 11 30 false rfl rfl (by decide) (fun _ _ _ => rfl) (fun _ => rfl))
          · (exact OpH.rdn rfl 11 30 false rfl rfl (by decide) (fun _ _ _ => rfl) (fun _ => rfl))
          · (exact OpH.rdu rfl 14 33 true rfl rfl (by decide) (fun _ _ _ => rfl) (fun _ => rfl))
          · (exact OpH.rdu rfl 14 33 true rfl rfl (by decide) (fun _ _ _ => rfl) (fun _ => rfl))
          · (exact OpH.rdu rfl 14 33 true rfl rfl (by decide) (fun _ _ _ => rfl) (fun _ => rfl))
          · (exact OpH.rdu rfl 14 33 true rfl rfl (by decide) (fun _ _ _ => rfl) (fun _ => rfl))
          · (exact OpH.rdu rfl 14 33 true rfl rfl (by decide) (fun _ _ _ => rfl) (fun _ => rfl))
          · (exact OpH.rdu rfl 14 33 true rfl rfl (by decide) (fun _ _ _ => rfl) (fun _ => rfl))
          · (exact OpH.rdu rfl 14 33 true rfl rfl (by decide) (fun _ _ _ => rfl) (fun _ => rfl))
          · (exact OpH.rdu rfl 14 33 true rfl rfl (by decide) (fun _ _ _ => rfl) (fun _ => rfl))
          · (exact OpH.rdu rfl 14 33 true rfl rfl (by decide) (fun _ _ _ => rfl) (fun _ => rfl))
          · (exact OpH.rdu rfl 14 33 true rfl rfl (by decide) (fun _ _ _ => rfl) (fun _ => rfl))
          · (exact OpH.rdn rfl 11 30 false rfl rfl (by decide) (fun _ _ _ => rfl) (fun _ => rfl))
          · (refine OpH.rd rfl rfl (fun ρ us w6 ho ht hc hl hsrc hW => ?_); have e30 := (ht 30 (by decide)).trans (show _ = (.bool true : Value) from rfl); have e44 := (ht 44 (by decide)).trans (show _ = (undef : Value) from rfl); clear ht ho; simp only [execOp, e30, e44]; go_simp; try rfl)
          -- TSAF
          · intro us w9 hmem hW
            simp only [putAll, List.map_cons, List.map_nil, List.foldl_cons, List.foldl_nil, Act.put, List.setIfInBounds_toArray, List.set_cons_succ, List.set_cons_zero]
            generalize hsv : slotAt _ _ us = sv
            have hq : sv 45 = (.bool true : Value) := by rw [← hsv]; rfl
            rw [hq]
            have HB9 := Lib.hid hW.1
            clear hsv hq hmem hW
            go_wp2
            go_meet
            case rel => exact ⟨by rw [HAX.out]; rfl, HB9⟩
        | true =>
          by_cases cB : nx ≤ x.id
          · have HAX : Hid (stripeAt s nx l k = false) := Lib.hid (by rw [hA1, decide_eq_false (by omega : ¬ x.id < nx)]; rfl)
            clear hA1 hp2
            go_wp2_with fail
            refine region_free (by kernel_rfl) (by kernel_rfl) 65 rfl [19, 20, 21, 22, 23, 24, 25, 26, 27, 28, 29, 30, 31, 32, 33, 34, 35, 36, 37, 38, 39, 40, 41, 42, 43, 44, 45] [2] [(21, 2)]
              [(19, [], fun _ => .agg #[.int .i64 s.K, .int .i64 s.M, .int .i64 s.size]), (20, [], fun _ => .agg #[.int .i64 x.id, .int .i64 x.len, .int .i64 x.gen, .slice A3 n3 c3]), (22, [2], fun _ => .bool false), (23, [2], fun _ => .bool false), (24, [], fun _ => .pointer (some ⟨g7, 0, none⟩)), (25, [], fun _ => .int .i64 x.id), (26, [], fun _ => .pointer (some ⟨w.heap.size + 1, 3, none⟩)), (27, [], fun _ => .int .i64 nx), (28, [], fun _ => .bool true), (29, [], fun _ => .bool true), (30, [], fun _ => .bool true), (31, [], fun _ => undef), (32, [], fun _ => undef), (33, [], fun _ => undef), (34, [], fun _ => undef), (35, [], fun _ => undef), (36, [], fun _ => undef), (37, [], fun _ => undef), (38, [], fun _ => undef), (39, [], fun _ => undef), (40, [], fun _ => undef), (41, [], fun _ => undef), (42, [], fun _ => undef), (43, [], fun _ => undef), (44, [], fun _ => undef), (45, [], fun _ => .bool true)]
              [] [] [[], [], [19, 20], [21], [22], [23], [24, 23], [23], [26, 23], [25, 27, 23], [23, 28], [29], [30], [31, 30], [32, 30], [33], [34, 33], [33], [36, 33], [33], [38, 33], [37, 39, 33], [40, 33], [41, 33], [35, 42, 33], [33, 43, 30], [30, 44]]
              (WdB w4 (fun i v _ => i = 2 → v = .bool true)) (by kernel_rfl) .init ⟨?_, ?_, ?_, ?_, ?_, ?_, ?_, ?_, ?_, ?_, ?_, ?_, ?_, ?_, ?_, ?_, ?_, ?_, ?_, ?_, ?_, ?_, ?_, ?_, ?_, ?_, ?_, trivial⟩ ?_
            -- FAST27 cdot
            · (refine OpH.rd rfl rfl (fun ρ us w6 ho ht hc hl hsrc hW => ?_); have e2 := (ho 2 rfl).trans (show _ = (.pointer (some ⟨w.heap.size, 0, none⟩) : Value) from rfl); have rr := HROW.out w6 (HB4.out.trans (hW.1.mono hm4)); have z0 := cell_of_row _ _ 0 _ _ _ rr.1; have z1 := cell_of_row _ _ 1 _ _ _ rr.1; have z2 := cell_of_row _ _ 2 _ _ _ rr.1; have x0 := cell_of_row _ _ 0 _ _ _ rr.2; have x3 := cell_of_row _ _ 3 _ _ _ rr.2; clear rr; clear ht ho; simp only [execOp, e2]; go_simp; try rfl)
            · (refine OpH.rd rfl rfl (fun ρ us w6 ho ht hc hl hsrc hW => ?_); have e7 := (ho 7 rfl).trans (show _ = (.pointer (some ⟨g7, 0, none⟩) : Value) from rfl); have r7 := ROW7.out w6 hW.1; have z0 := cell_of_row _ _ 0 _ _ _ r7; have z1 := cell_of_row _ _ 1 _ _ _ r7; have z2 := cell_of_row _ _ 2 _ _ _ r7; have z3 := cell_of_row _ _ 3 _ _ _ r7; clear r7; clear ht ho; simp only [execOp, e7]; go_simp; try rfl)
            · refine OpH.wr rfl (fun Z us w6 ho ht hni hlim hreq hW K hK => ?_)
              have e19 := (ht 19 (by decide)).trans (show _ = (.agg #[.int .i64 s.K, .int .i64 s.M, .int .i64 s.size] : Value) from rfl)
              have e20 := (ht 20 (by decide)).trans (show _ = (.agg #[.int .i64 x.id, .int .i64 x.len, .int .i64 x.gen, .slice A3 n3 c3] : Value) from rfl)
              have hcl := placeMay_c (w := w6) (s := s) (x := x) HSI.out HI.out (HL34.out.all hW.1)
              rw [HSO.out] at hcl
              refine step_call rfl 51 #[.tmp 19, .tmp 20] #[23, 69] rfl Try.func51 (by kernel_rfl) (by kernel_rfl) #[.agg #[.int .i64 s.K, .int .i64 s.M, .int .i64 s.size], .agg #[.int .i64 x.id, .int .i64 x.len, .int .i64 x.gen, .slice A3 n3 c3]] (by simp [e19, e20]; try first | done | rfl | exact ⟨rfl, rfl⟩) (hcl) ?_
              rintro e w7 ⟨rfl, hb7⟩
              exact ⟨_, rfl, hK _ _ (hW.snoc hb7 (fun j v h => h) (fun _ => rfl))⟩
            · (refine OpH.rd rfl rfl (fun ρ us w6 ho ht hc hl hsrc hW => ?_); have e21 := (ht 21 (by decide)).trans (show _ = ((us.lookup 2).getD undef : Value) from rfl); rw [(hW.at_ (hsrc 2 (by exact (List.mem_singleton.2 rfl : (2 : Nat) ∈ [2])))) rfl] at e21; clear ht ho; simp only [execOp, e21]; go_simp; try rfl)
            · (refine OpH.rd rfl rfl (fun ρ us w6 ho ht hc hl hsrc hW => ?_); have e22 := (ht 22 (by decide)).trans (show _ = (.bool false : Value) from rfl); clear ht ho; simp only [execOp, e22]; go_simp; try rfl)
            · (refine OpH.rdg rfl 4 23 false rfl rfl (by decide) (fun _ _ _ => rfl) (fun ρ us w6 ho ht hc hl hsrc hW => ?_); have e7 := (ho 7 rfl).trans (show _ = (.pointer (some ⟨g7, 0, none⟩) : Value) from rfl); clear ht ho; simp only [execOp, e7]; go_simp; try rfl)
            · (refine OpH.rdg rfl 4 23 false rfl rfl (by decide) (fun _ _ _ => rfl) (fun ρ us w6 ho ht hc hl hsrc hW => ?_); have e24 := (ht 24 (by decide)).trans (show _ = (.pointer (some ⟨g7, 0, none⟩) : Value) from rfl); have r7 := ROW7.out w6 hW.1; have z0 := cell_of_row _ _ 0 _ _ _ r7; have z1 := cell_of_row _ _ 1 _ _ _ r7; have z2 := cell_of_row _ _ 2 _ _ _ r7; have z3 := cell_of_row _ _ 3 _ _ _ r7; clear r7; clear ht ho; simp only [execOp, e24]; go_simp; try rfl)
            · (refine OpH.rdg rfl 4 23 false rfl rfl (by decide) (fun _ _ _ => rfl) (fun ρ us w6 ho ht hc hl hsrc hW => ?_); have e3 := (ho 3 rfl).trans (show _ = (.pointer (some ⟨w.heap.size + 1, 0, none⟩) : Value) from rfl); clear ht ho; simp only [execOp, e3]; go_simp; try rfl)
            · (refine OpH.rdg rfl 4 23 false rfl rfl (by decide) (fun _ _ _ => rfl) (fun ρ us w6 ho ht hc hl hsrc hW => ?_); have e26 := (ht 26 (by decide)).trans (show _ = (.pointer (some ⟨w.heap.size + 1, 3, none⟩) : Value) from rfl); have rr := HROW.out w6 (HB4.out.trans (hW.1.mono hm4)); have z0 := cell_of_row _ _ 0 _ _ _ rr.1; have z1 := cell_of_row _ _ 1 _ _ _ rr.1; have z2 := cell_of_row _ _ 2 _ _ _ rr.1; have x0 := cell_of_row _ _ 0 _ _ _ rr.2; have x3 := cell_of_row _ _ 3 _ _ _ rr.2; clear rr; clear ht ho; simp only [execOp, e26]; go_simp; try rfl)
            · (refine OpH.rdg rfl 4 23 false rfl rfl (by decide) (fun _ _ _ => rfl) (fun ρ us w6 ho ht hc hl hsrc hW => ?_); have e25 := (ht 25 (by decide)).trans (show _ = (.int .i64 x.id : Value) from rfl); have e27 := (ht 27 (by decide)).trans (show _ = (.int .i64 nx : Value) from rfl); clear ht ho; simp only [execOp, e25, e27]; go_simp; all_goals (first | rfl | exact congrArg Value.bool (decide_eq_false (by omega)) | exact congrArg Value.bool (decide_eq_true (by omega))))
            · (refine OpH.rd rfl rfl (fun ρ us w6 ho ht hc hl hsrc hW => ?_); have e23 := (ht 23 (by decide)).trans (show _ = (.bool false : Value) from rfl); have e28 := (ht 28 (by decide)).trans (show _ = (.bool true : Value) from rfl); clear ht ho; simp only [execOp, e23, e28]; go_simp; try rfl)
            · (refine OpH.rd rfl rfl (fun ρ us w6 ho ht hc hl hsrc hW => ?_); have e29 := (ht 29 (by decide)).trans (show _ = (.bool true : Value) from rfl); clear ht ho; simp only [execOp, e29]; go_simp; try rfl)
            · (exact OpH.rdn rfl 11 30 false rfl rfl (by decide) (fun _ _ _ => rfl) (fun _ => rfl))
            · (exact OpH.rdn rfl 11 30 false rfl rfl (by decide) (fun _ _ _ => rfl) (fun _ => rfl))
            · (exact OpH.rdn rfl 11 30 false rfl rfl (by decide) (fun _ _ _ => rfl) (fun _ => rfl))
            · (exact OpH.rdu rfl 14 33 true rfl rfl (by decide) (fun _ _ _ => rfl) (fun _ => rfl))
            · (exact OpH.rdu rfl 14 33 true rfl rfl (by decide) (fun _ _ _ => rfl) (fun _ => rfl))
            · (exact OpH.rdu rfl 14 33 true rfl rfl (by decide) (fun _ _ _ => rfl) (fun _ => rfl))
            · (exact OpH.rdu rfl 14 33 true rfl rfl (by decide) (fun _ _ _ => rfl) (fun _ => rfl))
            · (exact OpH.rdu rfl 14 33 true rfl rfl (by decide) (fun _ _ _ => rfl) (fun _ => rfl))
            · (exact OpH.rdu rfl 14 33 true rfl rfl (by decide) (fun _ _ _ => rfl) (fun _ => rfl))
            · (exact OpH.rdu rfl 14 33 true rfl rfl (by decide) (fun _ _ _ => rfl) (fun _ => rfl))
            · (exact OpH.rdu rfl 14 33 true rfl rfl (by decide) (fun _ _ _ => rfl) (fun _ => rfl))
            · (exact OpH.rdu rfl 14 33 true rfl rfl (by decide) (fun _ _ _ => rfl) (fun _ => rfl))
            · (exact OpH.rdu rfl 14 33 true rfl rfl (by decide) (fun _ _ _ => rfl) (fun _ => rfl))
            · (exact OpH.rdn rfl 11 30 false rfl rfl (by decide) (fun _ _ _ => rfl) (fun _ => rfl))
            · (refine OpH.rd rfl rfl (fun ρ us w6 ho ht hc hl hsrc hW => ?_); have e30 := (ht 30 (by decide)).trans (show _ = (.bool true : Value) from rfl); have e44 := (ht 44 (by decide)).trans (show _ = (undef : Value) from rfl); clear ht ho; simp only [execOp, e30, e44]; go_simp; try rfl)
            -- TSAF
            · intro us w9 hmem hW
              simp only [putAll, List.map_cons, List.map_nil, List.foldl_cons, List.foldl_nil, Act.put, List.setIfInBounds_toArray, List.set_cons_succ, List.set_cons_zero]
              generalize hsv : slotAt _ _ us = sv
              have hq : sv 45 = (.bool true : Value) := by rw [← hsv]; rfl
              rw [hq]
              have HB9 := Lib.hid hW.1
              clear hsv hq hmem hW
              go_wp2
              go_meet
              case rel => exact ⟨by rw [HAX.out]; rfl, HB9⟩
          · rw [decide_eq_true (by omega : x.id < nx)] at hA1
            by_cases hk0 : k = 0
            · have HAX : Hid (stripeAt s nx l k = true) := Lib.hid (by rw [hA1, decide_eq_true hk0]; rfl)
              have hk0' : ¬ 0 < (k : Int) := by omega
              clear hA1 hp2 hk0
              go_wp2_with fail
              refine region_free (by kernel_rfl) (by kernel_rfl) 65 rfl [19, 20, 21, 22, 23, 24, 25, 26, 27, 28, 29, 30, 31, 32, 33, 34, 35, 36, 37, 38, 39, 40, 41, 42, 43, 44, 45] [2] [(21, 2)]
                [(19, [], fun _ => .agg #[.int .i64 s.K, .int .i64 s.M, .int .i64 s.size]), (20, [], fun _ => .agg #[.int .i64 x.id, .int .i64 x.len, .int .i64 x.gen, .slice A3 n3 c3]), (22, [2], fun _ => .bool false), (23, [2], fun _ => .bool false), (24, [], fun _ => .pointer (some ⟨g7, 0, none⟩)), (25, [], fun _ => .int .i64 x.id), (26, [], fun _ => .pointer (some ⟨w.heap.size + 1, 3, none⟩)), (27, [], fun _ => .int .i64 nx), (28, [], fun _ => .bool false), (29, [], fun _ => .bool false), (30, [], fun _ => .bool false), (31, [], fun _ => .int .i64 (k : Int)), (32, [], fun _ => .bool false), (33, [], fun _ => .bool false), (34, [], fun _ => undef), (35, [], fun _ => undef), (36, [], fun _ => undef), (37, [], fun _ => undef), (38, [], fun _ => undef), (39, [], fun _ => undef), (40, [], fun _ => undef), (41, [], fun _ => undef), (42, [], fun _ => undef), (43, [], fun _ => undef), (44, [], fun _ => .bool false), (45, [], fun _ => .bool false)]
                [] [] [[], [], [19, 20], [21], [22], [23], [24, 23], [23], [26, 23], [25, 27, 23], [23, 28], [29], [30], [31, 30], [32, 30], [33], [34, 33], [33], [36, 33], [33], [38, 33], [37, 39, 33], [40, 33], [41, 33], [35, 42, 33], [33, 43, 30], [30, 44]]
                (WdB w4 (fun i v _ => i = 2 → v = .bool true)) (by kernel_rfl) .init ⟨?_, ?_, ?_, ?_, ?_, ?_, ?_, ?_, ?_, ?_, ?_, ?_, ?_, ?_, ?_, ?_, ?_, ?_, ?_, ?_, ?_, ?_, ?_, ?_, ?_, ?_, ?_, trivial⟩ ?_
              -- FAST27 cdot
              · (refine OpH.rd rfl rfl (fun ρ us w6 ho ht hc hl hsrc hW => ?_); have e2 := (ho 2 rfl).trans (show _ = (.pointer (some ⟨w.heap.size, 0, none⟩) : Value) from rfl); have rr := HROW.out w6 (HB4.out.trans (hW.1.mono hm4)); have z0 := cell_of_row _ _ 0 _ _ _ rr.1; have z1 := cell_of_row _ _ 1 _ _ _ rr.1; have z2 := cell_of_row _ _ 2 _ _ _ rr.1; have x0 := cell_of_row _ _ 0 _ _ _ rr.2; have x3 := cell_of_row _ _ 3 _ _ _ rr.2; clear rr; clear ht ho; simp only [execOp, e2]; go_simp; try rfl)
              · (refine OpH.rd rfl rfl (fun ρ us w6 ho ht hc hl hsrc hW => ?_); have e7 := (ho 7 rfl).trans (show _ = (.pointer (some ⟨g7, 0, none⟩) : Value) from rfl); have r7 := ROW7.out w6 hW.1; have z0 := cell_of_row _ _ 0 _ _ _ r7; have z1 := cell_of_row _ _ 1 _ _ _ r7; have z2 := cell_of_row _ _ 2 _ _ _ r7; have z3 := cell_of_row _ _ 3 _ _ _ r7; clear r7; clear ht ho; simp only [execOp, e7]; go_simp; try rfl)
              · refine OpH.wr rfl (fun Z us w6 ho ht hni hlim hreq hW K hK => ?_)
                have e19 := (ht 19 (by decide)).trans (show _ = (.agg #[.int .i64 s.K, .int .i64 s.M, .int .i64 s.size] : Value) from rfl)
                have e20 := (ht 20 (by decide)).trans (show _ = (.agg #[.int .i64 x.id, .int .i64 x.len, .int .i64 x.gen, .slice A3 n3 c3] : Value) from rfl)
                have hcl := placeMay_c (w := w6) (s := s) (x := x) HSI.out HI.out (HL34.out.all hW.1)
                rw [HSO.out] at hcl
                refine step_call rfl 51 #[.tmp 19, .tmp 20] #[23, 69] rfl Try.func51 (by kernel_rfl) (by kernel_rfl) #[.agg #[.int .i64 s.K, .int .i64 s.M, .int .i64 s.size], .agg #[.int .i64 x.id, .int .i64 x.len, .int .i64 x.gen, .slice A3 n3 c3]] (by simp [e19, e20]; try first | done | rfl | exact ⟨rfl, rfl⟩) (hcl) ?_
                rintro e w7 ⟨rfl, hb7⟩
                exact ⟨_, rfl, hK _ _ (hW.snoc hb7 (fun j v h => h) (fun _ => rfl))⟩
              · (refine OpH.rd rfl rfl (fun ρ us w6 ho ht hc hl hsrc hW => ?_); have e21 := (ht 21 (by decide)).trans (show _ = ((us.lookup 2).getD undef : Value) from rfl); rw [(hW.at_ (hsrc 2 (by exact (List.mem_singleton.2 rfl : (2 : Nat) ∈ [2])))) rfl] at e21; clear ht ho; simp only [execOp, e21]; go_simp; try rfl)
              · (refine OpH.rd rfl rfl (fun ρ us w6 ho ht hc hl hsrc hW => ?_); have e22 := (ht 22 (by decide)).trans (show _ = (.bool false : Value) from rfl); clear ht ho; simp only [execOp, e22]; go_simp; try rfl)
              · (refine OpH.rdg rfl 4 23 false rfl rfl (by decide) (fun _ _ _ => rfl) (fun ρ us w6 ho ht hc hl hsrc hW => ?_); have e7 := (ho 7 rfl).trans (show _ = (.pointer (some ⟨g7, 0, none⟩) : Value) from rfl); clear ht ho; simp only [execOp, e7]; go_simp; try rfl)
              · (refine OpH.rdg rfl 4 23 false rfl rfl (by decide) (fun _ _ _ => rfl) (fun ρ us w6 ho ht hc hl hsrc hW => ?_); have e24 := (ht 24 (by decide)).trans (show _ = (.pointer (some ⟨g7, 0, none⟩) : Value) from rfl); have r7 := ROW7.out w6 hW.1; have z0 := cell_of_row _ _ 0 _ _ _ r7; have z1 := cell_of_row _ _ 1 _ _ _ r7; have z2 := cell_of_row _ _ 2 _ _ _ r7; have z3 := cell_of_row _ _ 3 _ _ _ r7; clear r7; clear ht ho; simp only [execOp, e24]; go_simp; try rfl)
              · (refine OpH.rdg rfl 4 23 false rfl rfl (by decide) (fun _ _ _ => rfl) (fun ρ us w6 ho ht hc hl hsrc hW => ?_); have e3 := (ho 3 rfl).trans (show _ = (.pointer (some ⟨w.heap.size + 1, 0, none⟩) : Value) from rfl); clear ht ho; simp only [execOp, e3]; go_simp; try rfl)
              · (refine OpH.rdg rfl 4 23 false rfl rfl (by decide) (fun _ _ _ => rfl) (fun ρ us w6 ho ht hc hl hsrc hW => ?_); have e26 := (ht 26 (by decide)).trans (show _ = (.pointer (some ⟨w.heap.size + 1, 3, none⟩) : Value) from rfl); have rr := HROW.out w6 (HB4.out.trans (hW.1.mono hm4)); have z0 := cell_of_row _ _ 0 _ _ _ rr.1; have z1 := cell_of_row _ _ 1 _ _ _ rr.1; have z2 := cell_of_row _ _ 2 _ _ _ rr.1; have x0 := cell_of_row _ _ 0 _ _ _ rr.2; have x3 := cell_of_row _ _ 3 _ _ _ rr.2; clear rr; clear ht ho; simp only [execOp, e26]; go_simp; try rfl)
              · (refine OpH.rdg rfl 4 23 false rfl rfl (by decide) (fun _ _ _ => rfl) (fun ρ us w6 ho ht hc hl hsrc hW => ?_); have e25 := (ht 25 (by decide)).trans (show _ = (.int .i64 x.id : Value) from rfl); have e27 := (ht 27 (by decide)).trans (show _ = (.int .i64 nx : Value) from rfl); clear ht ho; simp only [execOp, e25, e27]; go_simp; all_goals (first | rfl | exact congrArg Value.bool (decide_eq_false (by omega)) | exact congrArg Value.bool (decide_eq_true (by omega))))
              · (refine OpH.rd rfl rfl (fun ρ us w6 ho ht hc hl hsrc hW => ?_); have e23 := (ht 23 (by decide)).trans (show _ = (.bool false : Value) from rfl); have e28 := (ht 28 (by decide)).trans (show _ = (.bool false : Value) from rfl); clear ht ho; simp only [execOp, e23, e28]; go_simp; try rfl)
              · (refine OpH.rd rfl rfl (fun ρ us w6 ho ht hc hl hsrc hW => ?_); have e29 := (ht 29 (by decide)).trans (show _ = (.bool false : Value) from rfl); clear ht ho; simp only [execOp, e29]; go_simp; try rfl)
              · (refine OpH.rdg rfl 11 30 false rfl rfl (by decide) (fun _ _ _ => rfl) (fun ρ us w6 ho ht hc hl hsrc hW => ?_); have e6 := (ho 6 rfl).trans (show _ = (.int .i64 (k : Int) : Value) from rfl); clear ht ho; simp only [execOp, e6]; go_simp; try rfl)
              · (refine OpH.rdg rfl 11 30 false rfl rfl (by decide) (fun _ _ _ => rfl) (fun ρ us w6 ho ht hc hl hsrc hW => ?_); have e31 := (ht 31 (by decide)).trans (show _ = (.int .i64 (k : Int) : Value) from rfl); clear ht ho; simp only [execOp, e31]; go_simp; all_goals (first | rfl | exact congrArg Value.bool (decide_eq_false (by omega)) | exact congrArg Value.bool (decide_eq_true (by omega))))
              · (refine OpH.rdg rfl 11 30 false rfl rfl (by decide) (fun _ _ _ => rfl) (fun ρ us w6 ho ht hc hl hsrc hW => ?_); have e32 := (ht 32 (by decide)).trans (show _ = (.bool false : Value) from rfl); clear ht ho; simp only [execOp, e32]; go_simp; try rfl)
              · (exact OpH.rdn rfl 14 33 true rfl rfl (by decide) (fun _ _ _ => rfl) (fun _ => rfl))
              · (exact OpH.rdn rfl 14 33 true rfl rfl (by decide) (fun _ _ _ => rfl) (fun _ => rfl))
              · (exact OpH.rdn rfl 14 33 true rfl rfl (by decide) (fun _ _ _ => rfl) (fun _ => rfl))
              · (exact OpH.rdn rfl 14 33 true rfl rfl (by decide) (fun _ _ _ => rfl) (fun _ => rfl))
              · (exact OpH.rdn rfl 14 33 true rfl rfl (by decide) (fun _ _ _ => rfl) (fun _ => rfl))
              · (exact OpH.rdn rfl 14 33 true rfl rfl (by decide) (fun _ _ _ => rfl) (fun _ => rfl))
              · (exact OpH.rdn rfl 14 33 true rfl rfl (by decide) (fun _ _ _ => rfl) (fun _ => rfl))
              · (exact OpH.rdn rfl 14 33 true rfl rfl (by decide) (fun _ _ _ => rfl) (fun _ => rfl))
              · (exact OpH.rdn rfl 14 33 true rfl rfl (by decide) (fun _ _ _ => rfl) (fun _ => rfl))
              · (exact OpH.rdn rfl 14 33 true rfl rfl (by decide) (fun _ _ _ => rfl) (fun _ => rfl))
              · (refine OpH.rdg rfl 11 30 false rfl rfl (by decide) (fun _ _ _ => rfl) (fun ρ us w6 ho ht hc hl hsrc hW => ?_); have e33 := (ht 33 (by decide)).trans (show _ = (.bool false : Value) from rfl); have e43 := (ht 43 (by decide)).trans (show _ = (undef : Value) from rfl); clear ht ho; simp only [execOp, e33, e43]; go_simp; try rfl)
              · (refine OpH.rd rfl rfl (fun ρ us w6 ho ht hc hl hsrc hW => ?_); have e30 := (ht 30 (by decide)).trans (show _ = (.bool false : Value) from rfl); have e44 := (ht 44 (by decide)).trans (show _ = (.bool false : Value) from rfl); clear ht ho; simp only [execOp, e30, e44]; go_simp; try rfl)
              -- TSAF
              · intro us w9 hmem hW
                simp only [putAll, List.map_cons, List.map_nil, List.foldl_cons, List.foldl_nil, Act.put, List.setIfInBounds_toArray, List.set_cons_succ, List.set_cons_zero]
                generalize hsv : slotAt _ _ us = sv
                have hq : sv 45 = (.bool false : Value) := by rw [← hsv]; rfl
                rw [hq]
                have HB9 := Lib.hid hW.1
                clear hsv hq hmem hW
                go_wp2
                go_meet
                case rel => exact ⟨by rw [HAX.out]; rfl, HB9⟩
            · have hk0' : 0 < (k : Int) := by omega
              have hc := hp2 (by omega)
              have e1 : (k : Int) - 1 = ((k - 1 : Nat) : Int) := by omega
              have HPC := Lib.hid (fun V (hV : Below w4.heap.size w4 V) => (hV.cell (p := ⟨bE, oE + (k - 1) * 4, none⟩) hbE4).trans hc)
              rw [decide_eq_false hk0] at hA1
              clear hp2 hk0 hc
              by_cases cD : x.id ≤ pd
              · have HAX : Hid (stripeAt s nx l k = false) := Lib.hid (by rw [hA1, decide_eq_false (by omega : ¬ pd < x.id)]; rfl)
                clear hA1
                go_wp2_with fail
                refine region_free (by kernel_rfl) (by kernel_rfl) 65 rfl [19, 20, 21, 22, 23, 24, 25, 26, 27, 28, 29, 30, 31, 32, 33, 34, 35, 36, 37, 38, 39, 40, 41, 42, 43, 44, 45] [2] [(21, 2)]
                  [(19, [], fun _ => .agg #[.int .i64 s.K, .int .i64 s.M, .int .i64 s.size]), (20, [], fun _ => .agg #[.int .i64 x.id, .int .i64 x.len, .int .i64 x.gen, .slice A3 n3 c3]), (22, [2], fun _ => .bool false), (23, [2], fun _ => .bool false), (24, [], fun _ => .pointer (some ⟨g7, 0, none⟩)), (25, [], fun _ => .int .i64 x.id), (26, [], fun _ => .pointer (some ⟨w.heap.size + 1, 3, none⟩)), (27, [], fun _ => .int .i64 nx), (28, [], fun _ => .bool false), (29, [], fun _ => .bool false), (30, [], fun _ => .bool false), (31, [], fun _ => .int .i64 (k : Int)), (32, [], fun _ => .bool true), (33, [], fun _ => .bool true), (34, [], fun _ => .pointer (some ⟨g7, 0, none⟩)), (35, [], fun _ => .int .i64 x.id), (36, [], fun _ => .pointer (some ⟨w.heap.size + 1, 0, none⟩)), (37, [], fun _ => .slice (some ⟨bE, oE, none⟩) n0 c0), (38, [], fun _ => .int .i64 (k : Int)), (39, [], fun _ => .int .i64 ((k - 1 : Nat) : Int)), (40, [], fun _ => .pointer (some ⟨bE, oE + (k - 1) * 4, none⟩)), (41, [], fun _ => .pointer (some ⟨bE, oE + (k - 1) * 4, none⟩)), (42, [], fun _ => .int .i64 pd), (43, [], fun _ => .bool true), (44, [], fun _ => .bool true), (45, [], fun _ => .bool true)]
                  [] [] [[], [], [19, 20], [21], [22], [23], [24, 23], [23], [26, 23], [25, 27, 23], [23, 28], [29], [30], [31, 30], [32, 30], [33], [34, 33], [33], [36, 33], [33], [38, 33], [37, 39, 33], [40, 33], [41, 33], [35, 42, 33], [33, 43, 30], [30, 44]]
                  (WdB w4 (fun i v _ => i = 2 → v = .bool true)) (by kernel_rfl) .init ⟨?_, ?_, ?_, ?_, ?_, ?_, ?_, ?_, ?_, ?_, ?_, ?_, ?_, ?_, ?_, ?_, ?_, ?_, ?_, ?_, ?_, ?_, ?_, ?_, ?_, ?_, ?_, trivial⟩ ?_
                -- FAST27 cdot
                · (refine OpH.rd rfl rfl (fun ρ us w6 ho ht hc hl hsrc hW => ?_); have e2 := (ho 2 rfl).trans (show _ = (.pointer (some ⟨w.heap.size, 0, none⟩) : Value) from rfl); have rr := HROW.out w6 (HB4.out.trans (hW.1.mono hm4)); have z0 := cell_of_row _ _ 0 _ _ _ rr.1; have z1 := cell_of_row _ _ 1 _ _ _ rr.1; have z2 := cell_of_row _ _ 2 _ _ _ rr.1; have x0 := cell_of_row _ _ 0 _ _ _ rr.2; have x3 := cell_of_row _ _ 3 _ _ _ rr.2; clear rr; clear ht ho; simp only [execOp, e2]; go_simp; try rfl)
                · (refine OpH.rd rfl rfl (fun ρ us w6 ho ht hc hl hsrc hW => ?_); have e7 := (ho 7 rfl).trans (show _ = (.pointer (some ⟨g7, 0, none⟩) : Value) from rfl); have r7 := ROW7.out w6 hW.1; have z0 := cell_of_row _ _ 0 _ _ _ r7; have z1 := cell_of_row _ _ 1 _ _ _ r7; have z2 := cell_of_row _ _ 2 _ _ _ r7; have z3 := cell_of_row _ _ 3 _ _ _ r7; clear r7; clear ht ho; simp only [execOp, e7]; go_simp; try rfl)
                · refine OpH.wr rfl (fun Z us w6 ho ht hni hlim hreq hW K hK => ?_)
                  have e19 := (ht 19 (by decide)).trans (show _ = (.agg #[.int .i64 s.K, .int .i64 s.M, .int .i64 s.size] : Value) from rfl)
                  have e20 := (ht 20 (by decide)).trans (show _ = (.agg #[.int .i64 x.id, .int .i64 x.len, .int .i64 x.gen, .slice A3 n3 c3] : Value) from rfl)
                  have hcl := placeMay_c (w := w6) (s := s) (x := x) HSI.out HI.out (HL34.out.all hW.1)
                  rw [HSO.out] at hcl
                  refine step_call rfl 51 #[.tmp 19, .tmp 20] #[23, 69] rfl Try.func51 (by kernel_rfl) (by kernel_rfl) #[.agg #[.int .i64 s.K, .int .i64 s.M, .int .i64 s.size], .agg #[.int .i64 x.id, .int .i64 x.len, .int .i64 x.gen, .slice A3 n3 c3]] (by simp [e19, e20]; try first | done | rfl | exact ⟨rfl, rfl⟩) (hcl) ?_
                  rintro e w7 ⟨rfl, hb7⟩
                  exact ⟨_, rfl, hK _ _ (hW.snoc hb7 (fun j v h => h) (fun _ => rfl))⟩
                · (refine OpH.rd rfl rfl (fun ρ us w6 ho ht hc hl hsrc hW => ?_); have e21 := (ht 21 (by decide)).trans (show _ = ((us.lookup 2).getD undef : Value) from rfl); rw [(hW.at_ (hsrc 2 (by exact (List.mem_singleton.2 rfl : (2 : Nat) ∈ [2])))) rfl] at e21; clear ht ho; simp only [execOp, e21]; go_simp; try rfl)
                · (refine OpH.rd rfl rfl (fun ρ us w6 ho ht hc hl hsrc hW => ?_); have e22 := (ht 22 (by decide)).trans (show _ = (.bool false : Value) from rfl); clear ht ho; simp only [execOp, e22]; go_simp; try rfl)
                · (refine OpH.rdg rfl 4 23 false rfl rfl (by decide) (fun _ _ _ => rfl) (fun ρ us w6 ho ht hc hl hsrc hW => ?_); have e7 := (ho 7 rfl).trans (show _ = (.pointer (some ⟨g7, 0, none⟩) : Value) from rfl); clear ht ho; simp only [execOp, e7]; go_simp; try rfl)
                · (refine OpH.rdg rfl 4 23 false rfl rfl (by decide) (fun _ _ _ => rfl) (fun ρ us w6 ho ht hc hl hsrc hW => ?_); have e24 := (ht 24 (by decide)).trans (show _ = (.pointer (some ⟨g7, 0, none⟩) : Value) from rfl); have r7 := ROW7.out w6 hW.1; have z0 := cell_of_row _ _ 0 _ _ _ r7; have z1 := cell_of_row _ _ 1 _ _ _ r7; have z2 := cell_of_row _ _ 2 _ _ _ r7; have z3 := cell_of_row _ _ 3 _ _ _ r7; clear r7; clear ht ho; simp only [execOp, e24]; go_simp; try rfl)
                · (refine OpH.rdg rfl 4 23 false rfl rfl (by decide) (fun _ _ _ => rfl) (fun ρ us w6 ho ht hc hl hsrc hW => ?_); have e3 := (ho 3 rfl).trans (show _ = (.pointer (some ⟨w.heap.size + 1, 0, none⟩) : Value) from rfl); clear ht ho; simp only [execOp, e3]; go_simp; try rfl)
                · (refine OpH.rdg rfl 4 23 false rfl rfl (by decide) (fun _ _ _ => rfl) (fun ρ us w6 ho ht hc hl hsrc hW => ?_); have e26 := (ht 26 (by decide)).trans (show _ = (.pointer (some ⟨w.heap.size + 1, 3, none⟩) : Value) from rfl); have rr := HROW.out w6 (HB4.out.trans (hW.1.mono hm4)); have z0 := cell_of_row _ _ 0 _ _ _ rr.1; have z1 := cell_of_row _ _ 1 _ _ _ rr.1; have z2 := cell_of_row _ _ 2 _ _ _ rr.1; have x0 := cell_of_row _ _ 0 _ _ _ rr.2; have x3 := cell_of_row _ _ 3 _ _ _ rr.2; clear rr; clear ht ho; simp only [execOp, e26]; go_simp; try rfl)
                · (refine OpH.rdg rfl 4 23 false rfl rfl (by decide) (fun _ _ _ => rfl) (fun ρ us w6 ho ht hc hl hsrc hW => ?_); have e25 := (ht 25 (by decide)).trans (show _ = (.int .i64 x.id : Value) from rfl); have e27 := (ht 27 (by decide)).trans (show _ = (.int .i64 nx : Value) from rfl); clear ht ho; simp only [execOp, e25, e27]; go_simp; all_goals (first | rfl | exact congrArg Value.bool (decide_eq_false (by omega)) | exact congrArg Value.bool (decide_eq_true (by omega))))
                · (refine OpH.rd rfl rfl (fun ρ us w6 ho ht hc hl hsrc hW => ?_); have e23 := (ht 23 (by decide)).trans (show _ = (.bool false : Value) from rfl); have e28 := (ht 28 (by decide)).trans (show _ = (.bool false : Value) from rfl); clear ht ho; simp only [execOp, e23, e28]; go_simp; try rfl)
                · (refine OpH.rd rfl rfl (fun ρ us w6 ho ht hc hl hsrc hW => ?_); have e29 := (ht 29 (by decide)).trans (show _ = (.bool false : Value) from rfl); clear ht ho; simp only [execOp, e29]; go_simp; try rfl)
                · (refine OpH.rdg rfl 11 30 false rfl rfl (by decide) (fun _ _ _ => rfl) (fun ρ us w6 ho ht hc hl hsrc hW => ?_); have e6 := (ho 6 rfl).trans (show _ = (.int .i64 (k : Int) : Value) from rfl); clear ht ho; simp only [execOp, e6]; go_simp; try rfl)
                · (refine OpH.rdg rfl 11 30 false rfl rfl (by decide) (fun _ _ _ => rfl) (fun ρ us w6 ho ht hc hl hsrc hW => ?_); have e31 := (ht 31 (by decide)).trans (show _ = (.int .i64 (k : Int) : Value) from rfl); clear ht ho; simp only [execOp, e31]; go_simp; all_goals (first | rfl | exact congrArg Value.bool (decide_eq_false (by omega)) | exact congrArg Value.bool (decide_eq_true (by omega))))
                · (refine OpH.rdg rfl 11 30 false rfl rfl (by decide) (fun _ _ _ => rfl) (fun ρ us w6 ho ht hc hl hsrc hW => ?_); have e32 := (ht 32 (by decide)).trans (show _ = (.bool true : Value) from rfl); clear ht ho; simp only [execOp, e32]; go_simp; try rfl)
                · (refine OpH.rdg rfl 14 33 true rfl rfl (by decide) (fun _ _ _ => rfl) (fun ρ us w6 ho ht hc hl hsrc hW => ?_); have e7 := (ho 7 rfl).trans (show _ = (.pointer (some ⟨g7, 0, none⟩) : Value) from rfl); clear ht ho; simp only [execOp, e7]; go_simp; try rfl)
                · (refine OpH.rdg rfl 14 33 true rfl rfl (by decide) (fun _ _ _ => rfl) (fun ρ us w6 ho ht hc hl hsrc hW => ?_); have e34 := (ht 34 (by decide)).trans (show _ = (.pointer (some ⟨g7, 0, none⟩) : Value) from rfl); have r7 := ROW7.out w6 hW.1; have z0 := cell_of_row _ _ 0 _ _ _ r7; have z1 := cell_of_row _ _ 1 _ _ _ r7; have z2 := cell_of_row _ _ 2 _ _ _ r7; have z3 := cell_of_row _ _ 3 _ _ _ r7; clear r7; clear ht ho; simp only [execOp, e34]; go_simp; try rfl)
                · (refine OpH.rdg rfl 14 33 true rfl rfl (by decide) (fun _ _ _ => rfl) (fun ρ us w6 ho ht hc hl hsrc hW => ?_); have e3 := (ho 3 rfl).trans (show _ = (.pointer (some ⟨w.heap.size + 1, 0, none⟩) : Value) from rfl); clear ht ho; simp only [execOp, e3]; go_simp; try rfl)
                · (refine OpH.rdg rfl 14 33 true rfl rfl (by decide) (fun _ _ _ => rfl) (fun ρ us w6 ho ht hc hl hsrc hW => ?_); have e36 := (ht 36 (by decide)).trans (show _ = (.pointer (some ⟨w.heap.size + 1, 0, none⟩) : Value) from rfl); have rr := HROW.out w6 (HB4.out.trans (hW.1.mono hm4)); have z0 := cell_of_row _ _ 0 _ _ _ rr.1; have z1 := cell_of_row _ _ 1 _ _ _ rr.1; have z2 := cell_of_row _ _ 2 _ _ _ rr.1; have x0 := cell_of_row _ _ 0 _ _ _ rr.2; have x3 := cell_of_row _ _ 3 _ _ _ rr.2; clear rr; clear ht ho; simp only [execOp, e36]; go_simp; try rfl)
                · (refine OpH.rdg rfl 14 33 true rfl rfl (by decide) (fun _ _ _ => rfl) (fun ρ us w6 ho ht hc hl hsrc hW => ?_); have e6 := (ho 6 rfl).trans (show _ = (.int .i64 (k : Int) : Value) from rfl); clear ht ho; simp only [execOp, e6]; go_simp; try rfl)
                · (refine OpH.rdg rfl 14 33 true rfl rfl (by decide) (fun _ _ _ => rfl) (fun ρ us w6 ho ht hc hl hsrc hW => ?_); have e38 := (ht 38 (by decide)).trans (show _ = (.int .i64 (k : Int) : Value) from rfl); clear ht ho; simp only [execOp, e38]; go_simp; rw [Go.IntWalk.i64_in _ (by omega)]; rfl)
                · (refine OpH.rdg rfl 14 33 true rfl rfl (by decide) (fun _ _ _ => rfl) (fun ρ us w6 ho ht hc hl hsrc hW => ?_); have e37 := (ht 37 (by decide)).trans (show _ = (.slice (some ⟨bE, oE, none⟩) n0 c0 : Value) from rfl); have e39 := (ht 39 (by decide)).trans (show _ = (.int .i64 ((k - 1 : Nat) : Int) : Value) from rfl); clear ht ho; simp only [execOp, e37, e39]; go_simp; rw [if_pos (by omega)]; rfl)
                · (refine OpH.rdg rfl 14 33 true rfl rfl (by decide) (fun _ _ _ => rfl) (fun ρ us w6 ho ht hc hl hsrc hW => ?_); have e40 := (ht 40 (by decide)).trans (show _ = (.pointer (some ⟨bE, oE + (k - 1) * 4, none⟩) : Value) from rfl); clear ht ho; simp only [execOp, e40]; go_simp; try rfl)
                · (refine OpH.rdg rfl 14 33 true rfl rfl (by decide) (fun _ _ _ => rfl) (fun ρ us w6 ho ht hc hl hsrc hW => ?_); have e41 := (ht 41 (by decide)).trans (show _ = (.pointer (some ⟨bE, oE + (k - 1) * 4, none⟩) : Value) from rfl); have z2 := HPC.out w6 hW.1; clear ht ho; simp only [execOp, e41]; go_simp; try rfl)
                · (refine OpH.rdg rfl 14 33 true rfl rfl (by decide) (fun _ _ _ => rfl) (fun ρ us w6 ho ht hc hl hsrc hW => ?_); have e35 := (ht 35 (by decide)).trans (show _ = (.int .i64 x.id : Value) from rfl); have e42 := (ht 42 (by decide)).trans (show _ = (.int .i64 pd : Value) from rfl); clear ht ho; simp only [execOp, e35, e42]; go_simp; all_goals (first | rfl | exact congrArg Value.bool (decide_eq_false (by omega)) | exact congrArg Value.bool (decide_eq_true (by omega))))
                · (refine OpH.rdg rfl 11 30 false rfl rfl (by decide) (fun _ _ _ => rfl) (fun ρ us w6 ho ht hc hl hsrc hW => ?_); have e33 := (ht 33 (by decide)).trans (show _ = (.bool true : Value) from rfl); have e43 := (ht 43 (by decide)).trans (show _ = (.bool true : Value) from rfl); clear ht ho; simp only [execOp, e33, e43]; go_simp; try rfl)
                · (refine OpH.rd rfl rfl (fun ρ us w6 ho ht hc hl hsrc hW => ?_); have e30 := (ht 30 (by decide)).trans (show _ = (.bool false : Value) from rfl); have e44 := (ht 44 (by decide)).trans (show _ = (.bool true : Value) from rfl); clear ht ho; simp only [execOp, e30, e44]; go_simp; try rfl)
                -- TSAF
                · intro us w9 hmem hW
                  simp only [putAll, List.map_cons, List.map_nil, List.foldl_cons, List.foldl_nil, Act.put, List.setIfInBounds_toArray, List.set_cons_succ, List.set_cons_zero]
                  generalize hsv : slotAt _ _ us = sv
                  have hq : sv 45 = (.bool true : Value) := by rw [← hsv]; rfl
                  rw [hq]
                  have HB9 := Lib.hid hW.1
                  clear hsv hq hmem hW
                  go_wp2
                  go_meet
                  case rel => exact ⟨by rw [HAX.out]; rfl, HB9⟩
              · have HAX : Hid (stripeAt s nx l k = true) := Lib.hid (by rw [hA1, decide_eq_true (by omega : pd < x.id)]; rfl)
                clear hA1
                go_wp2_with fail
                refine region_free (by kernel_rfl) (by kernel_rfl) 65 rfl [19, 20, 21, 22, 23, 24, 25, 26, 27, 28, 29, 30, 31, 32, 33, 34, 35, 36, 37, 38, 39, 40, 41, 42, 43, 44, 45] [2] [(21, 2)]
                  [(19, [], fun _ => .agg #[.int .i64 s.K, .int .i64 s.M, .int .i64 s.size]), (20, [], fun _ => .agg #[.int .i64 x.id, .int .i64 x.len, .int .i64 x.gen, .slice A3 n3 c3]), (22, [2], fun _ => .bool false), (23, [2], fun _ => .bool false), (24, [], fun _ => .pointer (some ⟨g7, 0, none⟩)), (25, [], fun _ => .int .i64 x.id), (26, [], fun _ => .pointer (some ⟨w.heap.size + 1, 3, none⟩)), (27, [], fun _ => .int .i64 nx), (28, [], fun _ => .bool false), (29, [], fun _ => .bool false), (30, [], fun _ => .bool false), (31, [], fun _ => .int .i64 (k : Int)), (32, [], fun _ => .bool true), (33, [], fun _ => .bool true), (34, [], fun _ => .pointer (some ⟨g7, 0, none⟩)), (35, [], fun _ => .int .i64 x.id), (36, [], fun _ => .pointer (some ⟨w.heap.size + 1, 0, none⟩)), (37, [], fun _ => .slice (some ⟨bE, oE, none⟩) n0 c0), (38, [], fun _ => .int .i64 (k : Int)), (39, [], fun _ => .int .i64 ((k - 1 : Nat) : Int)), (40, [], fun _ => .pointer (some ⟨bE, oE + (k - 1) * 4, none⟩)), (41, [], fun _ => .pointer (some ⟨bE, oE + (k - 1) * 4, none⟩)), (42, [], fun _ => .int .i64 pd), (43, [], fun _ => .bool false), (44, [], fun _ => .bool false), (45, [], fun _ => .bool false)]
                  [] [] [[], [], [19, 20], [21], [22], [23], [24, 23], [23], [26, 23], [25, 27, 23], [23, 28], [29], [30], [31, 30], [32, 30], [33], [34, 33], [33], [36, 33], [33], [38, 33], [37, 39, 33], [40, 33], [41, 33], [35, 42, 33], [33, 43, 30], [30, 44]]
                  (WdB w4 (fun i v _ => i = 2 → v = .bool true)) (by kernel_rfl) .init ⟨?_, ?_, ?_, ?_, ?_, ?_, ?_, ?_, ?_, ?_, ?_, ?_, ?_, ?_, ?_, ?_, ?_, ?_, ?_, ?_, ?_, ?_, ?_, ?_, ?_, ?_, ?_, trivial⟩ ?_
                -- FAST27 cdot
                · (refine OpH.rd rfl rfl (fun ρ us w6 ho ht hc hl hsrc hW => ?_); have e2 := (ho 2 rfl).trans (show _ = (.pointer (some ⟨w.heap.size, 0, none⟩) : Value) from rfl); have rr := HROW.out w6 (HB4.out.trans (hW.1.mono hm4)); have z0 := cell_of_row _ _ 0 _ _ _ rr.1; have z1 := cell_of_row _ _ 1 _ _ _ rr.1; have z2 := cell_of_row _ _ 2 _ _ _ rr.1; have x0 := cell_of_row _ _ 0 _ _ _ rr.2; have x3 := cell_of_row _ _ 3 _ _ _ rr.2; clear rr; clear ht ho; simp only [execOp, e2]; go_simp; try rfl)
                · (refine OpH.rd rfl rfl (fun ρ us w6 ho ht hc hl hsrc hW => ?_); have e7 := (ho 7 rfl).trans (show _ = (.pointer (some ⟨g7, 0, none⟩) : Value) from rfl); have r7 := ROW7.out w6 hW.1; have z0 := cell_of_row _ _ 0 _ _ _ r7; have z1 := cell_of_row _ _ 1 _ _ _ r7; have z2 := cell_of_row _ _ 2 _ _ _ r7; have z3 := cell_of_row _ _ 3 _ _ _ r7; clear r7; clear ht ho; simp only [execOp, e7]; go_simp; try rfl)
                · refine OpH.wr rfl (fun Z us w6 ho ht hni hlim hreq hW K hK => ?_)
                  have e19 := (ht 19 (by decide)).trans (show _ = (.agg #[.int .i64 s.K, .int .i64 s.M, .int .i64 s.size] : Value) from rfl)
                  have e20 := (ht 20 (by decide)).trans (show _ = (.agg #[.int .i64 x.id, .int .i64 x.len, .int .i64 x.gen, .slice A3 n3 c3] : Value) from rfl)
                  have hcl := placeMay_c (w := w6) (s := s) (x := x) HSI.out HI.out (HL34.out.all hW.1)
                  rw [HSO.out] at hcl
                  refine step_call rfl 51 #[.tmp 19, .tmp 20] #[23, 69] rfl Try.func51 (by kernel_rfl) (by kernel_rfl) #[.agg #[.int .i64 s.K, .int .i64 s.M, .int .i64 s.size], .agg #[.int .i64 x.id, .int .i64 x.len, .int .i64 x.gen, .slice A3 n3 c3]] (by simp [e19, e20]; try first | done | rfl | exact ⟨rfl, rfl⟩) (hcl) ?_
                  rintro e w7 ⟨rfl, hb7⟩
                  exact ⟨_, rfl, hK _ _ (hW.snoc hb7 (fun j v h => h) (fun _ => rfl))⟩
                · (refine OpH.rd rfl rfl (fun ρ us w6 ho ht hc hl hsrc hW => ?_); have e21 := (ht 21 (by decide)).trans (show _ = ((us.lookup 2).getD undef : Value) from rfl); rw [(hW.at_ (hsrc 2 (by exact (List.mem_singleton.2 rfl : (2 : Nat) ∈ [2])))) rfl] at e21; clear ht ho; simp only [execOp, e21]; go_simp; try rfl)
                · (refine OpH.rd rfl rfl (fun ρ us w6 ho ht hc hl hsrc hW => ?_); have e22 := (ht 22 (by decide)).trans (show _ = (.bool false : Value) from rfl); clear ht ho; simp only [execOp, e22]; go_simp; try rfl)
                · (refine OpH.rdg rfl 4 23 false rfl rfl (by decide) (fun _ _ _ => rfl) (fun ρ us w6 ho ht hc hl hsrc hW => ?_); have e7 := (ho 7 rfl).trans (show _ = (.pointer (some ⟨g7, 0, none⟩) : Value) from rfl); clear ht ho; simp only [execOp, e7]; go_simp; try rfl)
                · (refine OpH.rdg rfl 4 23 false rfl rfl (by decide) (fun _ _ _ => rfl) (fun ρ us w6 ho ht hc hl hsrc hW => ?_); have e24 := (ht 24 (by decide)).trans (show _ = (.pointer (some ⟨g7, 0, none⟩) : Value) from rfl); have r7 := ROW7.out w6 hW.1; have z0 := cell_of_row _ _ 0 _ _ _ r7; have z1 := cell_of_row _ _ 1 _ _ _ r7; have z2 := cell_of_row _ _ 2 _ _ _ r7; have z3 := cell_of_row _ _ 3 _ _ _ r7; clear r7; clear ht ho; simp only [execOp, e24]; go_simp; try rfl)
                · (refine OpH.rdg rfl 4 23 false rfl rfl (by decide) (fun _ _ _ => rfl) (fun ρ us w6 ho ht hc hl hsrc hW => ?_); have e3 := (ho 3 rfl).trans (show _ = (.pointer (some ⟨w.heap.size + 1, 0, none⟩) : Value) from rfl); clear ht ho; simp only [execOp, e3]; go_simp; try rfl)
                · (refine OpH.rdg rfl 4 23 false rfl rfl (by decide) (fun _ _ _ => rfl) (fun ρ us w6 ho ht hc hl hsrc hW => ?_); have e26 := (ht 26 (by decide)).trans (show _ = (.pointer (some ⟨w.heap.size + 1, 3, none⟩) : Value) from rfl); have rr := HROW.out w6 (HB4.out.trans (hW.1.mono hm4)); have z0 := cell_of_row _ _ 0 _ _ _ rr.1; have z1 := cell_of_row _ _ 1 _ _ _ rr.1; have z2 := cell_of_row _ _ 2 _ _ _ rr.1; have x0 := cell_of_row _ _ 0 _ _ _ rr.2; have x3 := cell_of_row _ _ 3 _ _ _ rr.2; clear rr; clear ht ho; simp only [execOp, e26]; go_simp; try rfl)
                · (refine OpH.rdg rfl 4 23 false rfl rfl (by decide) (fun _ _ _ => rfl) (fun ρ us w6 ho ht hc hl hsrc hW => ?_); have e25 := (ht 25 (by decide)).trans (show _ = (.int .i64 x.id : Value) from rfl); have e27 := (ht 27 (by decide)).trans (show _ = (.int .i64 nx : Value) from rfl); clear ht ho; simp only [execOp, e25, e27]; go_simp; all_goals (first | rfl | exact congrArg Value.bool (decide_eq_false (by omega)) | exact congrArg Value.bool (decide_eq_true (by omega))))
                · (refine OpH.rd rfl rfl (fun ρ us w6 ho ht hc hl hsrc hW => ?_); have e23 := (ht 23 (by decide)).trans (show _ = (.bool false : Value) from rfl); have e28 := (ht 28 (by decide)).trans (show _ = (.bool false : Value) from rfl); clear ht ho; simp only [execOp, e23, e28]; go_simp; try rfl)
                · (refine OpH.rd rfl rfl (fun ρ us w6 ho ht hc hl hsrc hW => ?_); have e29 := (ht 29 (by decide)).trans (show _ = (.bool false : Value) from rfl); clear ht ho; simp only [execOp, e29]; go_simp; try rfl)
                · (refine OpH.rdg rfl 11 30 false rfl rfl (by decide) (fun _ _ _ => rfl) (fun ρ us w6 ho ht hc hl hsrc hW => ?_); have e6 := (ho 6 rfl).trans (show _ = (.int .i64 (k : Int) : Value) from rfl); clear ht ho; simp only [execOp, e6]; go_simp; try rfl)
                · (refine OpH.rdg rfl 11 30 false rfl rfl (by decide) (fun _ _ _ => rfl) (fun ρ us w6 ho ht hc hl hsrc hW => ?_); have e31 := (ht 31 (by decide)).trans (show _ = (.int .i64 (k : Int) : Value) from rfl); clear ht ho; simp only [execOp, e31]; go_simp; all_goals (first | rfl | exact congrArg Value.bool (decide_eq_false (by omega)) | exact congrArg Value.bool (decide_eq_true (by omega))))
                · (refine OpH.rdg rfl 11 30 false rfl rfl (by decide) (fun _ _ _ => rfl) (fun ρ us w6 ho ht hc hl hsrc hW => ?_); have e32 := (ht 32 (by decide)).trans (show _ = (.bool true : Value) from rfl); clear ht ho; simp only [execOp, e32]; go_simp; try rfl)
                · (refine OpH.rdg rfl 14 33 true rfl rfl (by decide) (fun _ _ _ => rfl) (fun ρ us w6 ho ht hc hl hsrc hW => ?_); have e7 := (ho 7 rfl).trans (show _ = (.pointer (some ⟨g7, 0, none⟩) : Value) from rfl); clear ht ho; simp only [execOp, e7]; go_simp; try rfl)
                · (refine OpH.rdg rfl 14 33 true rfl rfl (by decide) (fun _ _ _ => rfl) (fun ρ us w6 ho ht hc hl hsrc hW => ?_); have e34 := (ht 34 (by decide)).trans (show _ = (.pointer (some ⟨g7, 0, none⟩) : Value) from rfl); have r7 := ROW7.out w6 hW.1; have z0 := cell_of_row _ _ 0 _ _ _ r7; have z1 := cell_of_row _ _ 1 _ _ _ r7; have z2 := cell_of_row _ _ 2 _ _ _ r7; have z3 := cell_of_row _ _ 3 _ _ _ r7; clear r7; clear ht ho; simp only [execOp, e34]; go_simp; try rfl)
                · (refine OpH.rdg rfl 14 33 true rfl rfl (by decide) (fun _ _ _ => rfl) (fun ρ us w6 ho ht hc hl hsrc hW => ?_); have e3 := (ho 3 rfl).trans (show _ = (.pointer (some ⟨w.heap.size + 1, 0, none⟩) : Value) from rfl); clear ht ho; simp only [execOp, e3]; go_simp; try rfl)
                · (refine OpH.rdg rfl 14 33 true rfl rfl (by decide) (fun _ _ _ => rfl) (fun ρ us w6 ho ht hc hl hsrc hW => ?_); have e36 := (ht 36 (by decide)).trans (show _ = (.pointer (some ⟨w.heap.size + 1, 0, none⟩) : Value) from rfl); have rr := HROW.out w6 (HB4.out.trans (hW.1.mono hm4)); have z0 := cell_of_row _ _ 0 _ _ _ rr.1; have z1 := cell_of_row _ _ 1 _ _ _ rr.1; have z2 := cell_of_row _ _ 2 _ _ _ rr.1; have x0 := cell_of_row _ _ 0 _ _ _ rr.2; have x3 := cell_of_row _ _ 3 _ _ _ rr.2; clear rr; clear ht ho; simp only [execOp, e36]; go_simp; try rfl)
                · (refine OpH.rdg rfl 14 33 true rfl rfl (by decide) (fun _ _ _ => rfl) (fun ρ us w6 ho ht hc hl hsrc hW => ?_); have e6 := (ho 6 rfl).trans (show _ = (.int .i64 (k : Int) : Value) from rfl); clear ht ho; simp only [execOp, e6]; go_simp; try rfl)
                · (refine OpH.rdg rfl 14 33 true rfl rfl (by decide) (fun _ _ _ => rfl) (fun ρ us w6 ho ht hc hl hsrc hW => ?_); have e38 := (ht 38 (by decide)).trans (show _ = (.int .i64 (k : Int) : Value) from rfl); clear ht ho; simp only [execOp, e38]; go_simp; rw [Go.IntWalk.i64_in _ (by omega)]; rfl)
                · (refine OpH.rdg rfl 14 33 true rfl rfl (by decide) (fun _ _ _ => rfl) (fun ρ us w6 ho ht hc hl hsrc hW => ?_); have e37 := (ht 37 (by decide)).trans (show _ = (.slice (some ⟨bE, oE, none⟩) n0 c0 : Value) from rfl); have e39 := (ht 39 (by decide)).trans (show _ = (.int .i64 ((k - 1 : Nat) : Int) : Value) from rfl); clear ht ho; simp only [execOp, e37, e39]; go_simp; rw [if_pos (by omega)]; rfl)
                · (refine OpH.rdg rfl 14 33 true rfl rfl (by decide) (fun _ _ _ => rfl) (fun ρ us w6 ho ht hc hl hsrc hW => ?_); have e40 := (ht 40 (by decide)).trans (show _ = (.pointer (some ⟨bE, oE + (k - 1) * 4, none⟩) : Value) from rfl); clear ht ho; simp only [execOp, e40]; go_simp; try rfl)
                · (refine OpH.rdg rfl 14 33 true rfl rfl (by decide) (fun _ _ _ => rfl) (fun ρ us w6 ho ht hc hl hsrc hW => ?_); have e41 := (ht 41 (by decide)).trans (show _ = (.pointer (some ⟨bE, oE + (k - 1) * 4, none⟩) : Value) from rfl); have z2 := HPC.out w6 hW.1; clear ht ho; simp only [execOp, e41]; go_simp; try rfl)
                · (refine OpH.rdg rfl 14 33 true rfl rfl (by decide) (fun _ _ _ => rfl) (fun ρ us w6 ho ht hc hl hsrc hW => ?_); have e35 := (ht 35 (by decide)).trans (show _ = (.int .i64 x.id : Value) from rfl); have e42 := (ht 42 (by decide)).trans (show _ = (.int .i64 pd : Value) from rfl); clear ht ho; simp only [execOp, e35, e42]; go_simp; all_goals (first | rfl | exact congrArg Value.bool (decide_eq_false (by omega)) | exact congrArg Value.bool (decide_eq_true (by omega))))
                · (refine OpH.rdg rfl 11 30 false rfl rfl (by decide) (fun _ _ _ => rfl) (fun ρ us w6 ho ht hc hl hsrc hW => ?_); have e33 := (ht 33 (by decide)).trans (show _ = (.bool true : Value) from rfl); have e43 := (ht 43 (by decide)).trans (show _ = (.bool false : Value) from rfl); clear ht ho; simp only [execOp, e33, e43]; go_simp; try rfl)
                · (refine OpH.rd rfl rfl (fun ρ us w6 ho ht hc hl hsrc hW => ?_); have e30 := (ht 30 (by decide)).trans (show _ = (.bool false : Value) from rfl); have e44 := (ht 44 (by decide)).trans (show _ = (.bool false : Value) from rfl); clear ht ho; simp only [execOp, e30, e44]; go_simp; try rfl)
                -- TSAF
                · intro us w9 hmem hW
                  simp only [putAll, List.map_cons, List.map_nil, List.foldl_cons, List.foldl_nil, Act.put, List.setIfInBounds_toArray, List.set_cons_succ, List.set_cons_zero]
                  generalize hsv : slotAt _ _ us = sv
                  have hq : sv 45 = (.bool false : Value) := by rw [← hsv]; rfl
                  rw [hq]
                  have HB9 := Lib.hid hW.1
                  clear hsv hq hmem hW
                  go_wp2
                  go_meet
                  case rel => exact ⟨by rw [HAX.out]; rfl, HB9⟩
      case rest =>
        rename World => wc
        obtain ⟨rfl, HBc⟩ := hcut
        have hmc : m ≤ wc.heap.size := by have := HBc.out.size; omega
        have HB5 := Lib.hid (HB4.out.trans (HBc.out.mono hm4))
        have HST5 := Lib.hid (HST4.out.all HBc.out)
        have HROW7 := Lib.hid (ROW7.out wc HBc.out)
        generalize htk : stripeAt s nx l k = tk at *
        have HTK := Lib.hid htk; clear htk HST4 HL34 ROW7 HB4 HBc
        cases tk with
        | false =>
          have HE : Hid (R = false) := Lib.hid (by rw [HR.out, stripesOk_bad (k := k) (by have := HL.out; omega) HTK.out])
          go_wp2
          go_ret
          exact ⟨by rw [HE.out]; rfl, HBW.out _ HB5.out⟩
        | true =>
          have z3 := cell_of_row _ _ 3 _ _ _ HROW7.out
          have hn3l := (HLW.out wc HB5.out)
          have hcap3 : n3 ≤ 9223372036854775807 := Nat.le_trans hn3l.le hn3l.cap
          clear hn3l
          have hlen : (slotsTo l k).length + x.place.length ≤ 1000000 := by
            obtain ⟨r, hr⟩ := slotsTo_le (l := l) (k + 1)
            have h2 := hfew
            rw [hr, slotsTo_succ (by have := HL.out; omega), ← HXD.out, List.length_append, List.length_append] at h2
            omega
          have hml : 1000000 < maxLen := by decide
          go_wp2_with fail
          clear z3
          go_loopw [49] (fun iv wr => ∃ j : Nat, j ≤ n3 ∧ iv = .int .i64 j ∧ Hid (Below m w2 wr) ∧ Hid (SetAt Try.prog 67 4 wr m (slotsTo l k ++ x.place.take j).length (keysS (slotsTo l k ++ x.place.take j))) ∧ Hid (apartL (slotsTo l k ++ x.place.take j) = true)) (fun iv _ => n3 - (intOf iv).toNat)
          case atStart => exact ⟨0, Nat.zero_le _, rfl, HB5, by simpa using HST5, by simpa using HND⟩
          case round =>
            rename World => wj
            clear HB5 HST5 HND HROW7
            obtain ⟨j, hj, rfl, HBj, HSj, HNj⟩ := hrel
            by_cases hjl : j < n3
            · obtain ⟨b3, o3, rfl, _, hb3, g1, g2, v1, v2, _⟩ := (HLW.out wj HBj.out).slot_at hjl
              have hjy : j < x.place.length := by have := HLN.out; omega
              have hyj : x.place[j]? = some (x.place.getD j default) := by rw [List.getD_eq_getElem?_getD, List.getElem?_eq_getElem hjy]; rfl
              have htk2 : x.place.take (j + 1) = x.place.take j ++ [x.place.getD j default] := by rw [List.take_add_one, hyj]; rfl
              have htl : (x.place.take j).length ≤ x.place.length := by rw [List.length_take]; omega
              have hlt2 : (slotsTo l k ++ x.place.take j).length < maxLen := by rw [List.length_append]; omega
              have HTW := Lib.hid (fun (hd : 0 ≤ (x.place.getD j default).disk) (hm : x.place.getD j default ∈ slotsTo l k ++ x.place.take j) => stripesOk_twice (s := s) (nx := nx) (l := l) (k := k) (j := j) (by have := HL.out; omega) (by rw [← HXD.out]; exact hjy) (by rw [← HXD.out]; exact hd) (by rw [← HXD.out]; exact hm))
              have HTK2 := Lib.hid htk2; clear htk2 hyj
              generalize x.place.getD j default = p at *
              obtain ⟨kl, hkey⟩ := slot_key g1 g2
              go_upto_region 10 with (fail)
              have hal : Below wj.heap.size wj (wj.alloc (.cells #[.int .i64 p.disk, .int .i64 p.pos] 67)) := (Below.refl _ _).alloc (Nat.le_refl _) _
              have hrow := heap_alloc_new wj (.cells #[.int .i64 p.disk, .int .i64 p.pos] 67)
              generalize (wj.alloc (.cells #[.int .i64 p.disk, .int .i64 p.pos] 67)) = wp at *
              have hmj : m ≤ wj.heap.size := by have := HBj.out.size; omega
              have hmp : m ≤ wp.heap.size := by have := hal.size; omega
              have HBp := Lib.hid (HBj.out.trans (hal.mono hmj))
              have HSp := Lib.hid (HSj.out.all hal)
              clear hal v1 v2 HSj HBj
              generalize wj.heap.size = g9 at *
              have z0 := cell_of_row _ _ 0 _ _ _ hrow
              have z1 := cell_of_row _ _ 1 _ _ _ hrow
              clear hrow
              by_cases hpd : 0 ≤ p.disk
              · go_wp2_with (at_lookup; refine wpList_look_set_g _ (by first | rfl | simp [Region.wanted, yielded]) _ _ 99 rfl slot_keyed Try.underlying99 Try.underlying4 (Try.zeroValue4 _) m _ _ rfl HSp.out _ kl rfl hkey ?_)
                refine ⟨?_, ?_⟩
                · intro hx
                  rw [mem_keysS] at hx
                  have HN2 : Hid (apartL (slotsTo l k ++ x.place.take (j + 1)) = true) := Lib.hid (by
                    rw [HTK2.out, ← List.append_assoc]
                    exact apartL_snoc HNj.out (fun _ => hx))
                  clear hx
                  go_wp2_with (at_mapUpdate; refine wpList_put_set _ rfl _ _ _ 99 rfl slot_keyed Try.underlying99 Try.underlying4 m _ _ rfl HSp.out hlt2 _ kl rfl rfl hkey ?_)
                  intro w6 hset6 hg6
                  have HB6 := Lib.hid (HBp.out.grown hg6 (by have := HBp.out.size; omega) (fun r hr => by injection hr with hr; omega))
                  have HS6 : Hid (SetAt Try.prog 67 4 w6 m (slotsTo l k ++ x.place.take (j + 1)).length (keysS (slotsTo l k ++ x.place.take (j + 1)))) := Lib.hid (by
                    rw [HTK2.out, ← List.append_assoc, List.length_append (bs := [p])]
                    unfold keysS
                    rw [List.map_append (l₂ := [p]), List.length_append, List.length_take]
                    exact hset6)
                  clear hset6 hg6
                  go_wp2
                  exact ⟨⟨j + 1, by omega, by go_num, HB6, HS6, HN2⟩, by simp [intOf]; omega⟩
                · intro hx
                  rw [mem_keysS] at hx
                  have HE : Hid (R = false) := Lib.hid (by rw [HR.out, HTW.out hpd hx])
                  clear hx
                  go_wp2
                  go_ret
                  exact ⟨by rw [HE.out]; rfl, HBW.out _ HBp.out⟩
              · have HN2 : Hid (apartL (slotsTo l k ++ x.place.take (j + 1)) = true) := Lib.hid (by
                  rw [HTK2.out, ← List.append_assoc]
                  exact apartL_snoc HNj.out (fun h => absurd h hpd))
                go_wp2_with (at_mapUpdate; refine wpList_put_set _ rfl _ _ _ 99 rfl slot_keyed Try.underlying99 Try.underlying4 m _ _ rfl HSp.out hlt2 _ kl rfl rfl hkey ?_)
                intro w6 hset6 hg6
                have HB6 := Lib.hid (HBp.out.grown hg6 (by have := HBp.out.size; omega) (fun r hr => by injection hr with hr; omega))
                have HS6 : Hid (SetAt Try.prog 67 4 w6 m (slotsTo l k ++ x.place.take (j + 1)).length (keysS (slotsTo l k ++ x.place.take (j + 1)))) := Lib.hid (by
                  rw [HTK2.out, ← List.append_assoc, List.length_append (bs := [p])]
                  unfold keysS
                  rw [List.map_append (l₂ := [p]), List.length_append, List.length_take]
                  exact hset6)
                clear hset6 hg6
                go_wp2
                exact ⟨⟨j + 1, by omega, by go_num, HB6, HS6, HN2⟩, by simp [intOf]; omega⟩
            · obtain rfl : j = n3 := by omega
              have HA2 := Lib.hid (fun j' (hj' : j' < k + 1) => (show stripeAt s nx l j' = true from by
                by_cases e : j' = k
                · rw [e]; exact HTK.out
                · exact HA.out j' (by omega)))
              have HNX : Hid (slotsTo l (k + 1) = slotsTo l k ++ x.place.take j) := Lib.hid (by rw [slotsTo_succ (by have := HL.out; omega), ← HXD.out, List.take_of_length_le (by have := HLN.out; omega)])
              go_wp2
              exact ⟨⟨k + 1, by omega, by go_num, HBj, by rw [HNX.out]; exact HSj, HA2, by rw [HNX.out]; exact HNj⟩, by simp [intOf]; omega⟩
    · obtain rfl : k = n0 := by omega
      have HE : Hid (R = true) := Lib.hid (by rw [HR.out, stripesOk_all (fun j hj => HA.out j (by have := HL.out; omega)) (by rw [HL.out]; exact HND.out)])
      go_wp2
      go_ret
      exact ⟨by rw [HE.out]; rfl, HBW.out _ HB.out⟩
end Go.Proofs.Ytipecejghioicaa
