/- siloref16: Spread, Stripes. Printed by gen_k2.py. -/
import Derived.Test.YtjeecdoffoahkaaE2r
import Derived.Test.YtjeecdoffoahkaaB2r
import Derived.Test.YtjeecdoffoahkaaT1r
import Derived.Deep.Cut
import Derived.Test.YtjeecdoffoahkaaB6r
import Derived.Test.YtjeecdoffoahkaaE8r
-- from K1
namespace Go.Proofs.Ytjeecdoffoahkaa
open Go.RowKit Go.Silo

end Go.Proofs.Ytjeecdoffoahkaa
namespace Go.Proofs.Ytjeecdoffoahkaa
open Go.RowKit Go.Silo

def stripesAt (s : Shape) (l : List Stripe) (k : Nat) : Bool := stripeOk s (l.getD k default) && !(decide (0 < k) && decide ((l.getD k default).id ≤ (l.getD (k - 1) default).id))
/-- May they be, by rising IDs? -/
def stripesB (s : Shape) (l : List Stripe) : Bool := (List.range l.length).all (stripesAt s l)
theorem stripesB_true {s : Shape} {l : List Stripe} (h : ∀ j, j < l.length → stripesAt s l j = true) : stripesB s l = true := List.all_eq_true.2 fun i hi => h i (List.mem_range.1 hi)
theorem stripesB_false {s : Shape} {l : List Stripe} {k : Nat} (hk : k < l.length) (h : stripesAt s l k = false) : stripesB s l = false := by
  cases hh : stripesB s l with
  | false => rfl
  | true => have := List.all_eq_true.1 hh k (List.mem_range.2 hk); rw [h] at this; cases this
set_option maxRecDepth 100000 in
set_option maxHeartbeats 8000000 in
theorem refStripes_c {tg tg1 : Bool} {S : Nat → Prop} {w : World} {A : Option Addr} {n c : Nat} {s : Shape} {l : List Stripe} (h : Sl tg 97 (stripeE tg1) w S A n c l) :
    Calls Try.prog 44 #[.agg #[.int .i64 s.K, .int .i64 s.M, .int .i64 s.size], .slice A n c] w (RetV (.bool (stripesB s l && shapeOk s)) w) := by
  have HL := Lib.hid h.len
  have hcap : n ≤ 9223372036854775807 := Nat.le_trans h.le h.cap
  have hal : Below w.heap.size w (w.alloc (.cells #[.int .i64 s.K, .int .i64 s.M, .int .i64 s.size] 23)) := (by repeat' (first | (with_reducible exact Below.refl _ _) | (with_reducible refine Below.alloc ?_ ?_ _) | (with_reducible refine Below.drew ?_) | (with_reducible refine below_drewN ?_ _) | (with_reducible refine Below.setCell ?_ ?_ _) | (refine via ?_ (by with_reducible assumption) ?_) | (refine via ?_ (below_ext _ _) ?_) | go_size))
  have H := Lib.hid (h.all hal)
  have hrow := heap_alloc_new w (.cells #[.int .i64 s.K, .int .i64 s.M, .int .i64 s.size] 23)
  have hz : w.heap.size < (w.alloc (.cells #[.int .i64 s.K, .int .i64 s.M, .int .i64 s.size] 23)).heap.size := by simp
  clear h
  go_enter Try.func44, Try.ntmps44
  go_upto_region 1 with (fail)
  generalize w.alloc (.cells #[.int .i64 s.K, .int .i64 s.M, .int .i64 s.size] 23) = W0 at *
  have ROW := Lib.hid (fun V (hV : Below W0.heap.size W0 V) => (show V.cell? ⟨w.heap.size, 0, none⟩ = some (.int .i64 s.K) ∧ V.cell? ⟨w.heap.size, 1, none⟩ = some (.int .i64 s.M) ∧ V.cell? ⟨w.heap.size, 2, none⟩ = some (.int .i64 s.size) from by
    have r := (hV.block _ hz).trans hrow
    exact ⟨cell_of_row V _ 0 _ _ _ r, cell_of_row V _ 1 _ _ _ r, cell_of_row V _ 2 _ _ _ r⟩))
  have HALL := Lib.hid (fun W (hW : Below W0.heap.size W0 W) => hal.trans (hW.mono (Nat.le_of_lt hz)))
  clear hrow hal
  go_wp2_with fail
  go_loopw [5] (fun i wr => ∃ k : Nat, k ≤ n ∧ i = .int .i64 k ∧ Hid (Below W0.heap.size W0 wr) ∧ Hid (∀ j, j < k → stripesAt s l j = true)) (fun i _ => n - (intOf i).toNat)
  case atStart => exact ⟨0, Nat.zero_le _, rfl, Lib.hid (Below.refl _ _), Lib.hid (fun j hj => by omega)⟩
  case round =>
    obtain ⟨k, hk, rfl, HB, he⟩ := hrel
    by_cases hlt : k < n
    · obtain ⟨b, o, A3, n3, c3, rfl, _, hbl, i1, i2, i3, hpl, z0, z1, z2, z3, _⟩ := H.out.stripe_at hlt
      have hat : stripesAt s l k = (stripeOk s (l.getD k default) && !(decide (0 < k) && decide ((l.getD k default).id ≤ (l.getD (k - 1) default).id))) := rfl
      have hprev : 0 < k → W0.cell? ⟨b, o + (k - 1) * 4, none⟩ = some (.int .i64 (l.getD (k - 1) default).id) := fun h0k => by
        obtain ⟨b', o', _, _, _, e, _, _, _, _, _, _, zz, _⟩ := H.out.stripe_at (show k - 1 < n by omega)
        injection e with e; injection e with e1 e2; subst e1 e2; exact zz
      have HPREV := Lib.hid hprev; clear hprev
      generalize l.getD k default = x at *
      generalize (l.getD (k - 1) default).id = xp at *
      have HAT := Lib.hid hat; clear hat
      have HFF := Lib.hid (fun hf : stripesAt s l k = false => stripesB_false (s := s) (l := l) (by have := HL.out; omega) hf)
      have HNEXT := Lib.hid (fun (hf : stripesAt s l k = true) j (hj : j < k + 1) => (show stripesAt s l j = true from by
        rcases Nat.lt_or_ge j k with hjk | hjk
        · exact he.out j hjk
        · obtain rfl : j = k := by omega
          exact hf))
      have HPL := Lib.hid (fun V (hV : Below W0.heap.size W0 V) => hpl.all hV); clear hpl
      have CEL := Lib.hid (fun w6 (hb : Below W0.heap.size W0 w6) => And.intro (ROW.out w6 hb).1 (And.intro (ROW.out w6 hb).2.1 (And.intro (ROW.out w6 hb).2.2 (And.intro ((hb.cell (p := ⟨b, o + k * 4, none⟩) hbl).trans z0) (And.intro ((hb.cell (p := ⟨b, o + k * 4 + 1, none⟩) hbl).trans z1) (And.intro ((hb.cell (p := ⟨b, o + k * 4 + 2, none⟩) hbl).trans z2) (And.intro ((hb.cell (p := ⟨b, o + k * 4 + 3, none⟩) hbl).trans z3) (fun h0k : 0 < k => (hb.cell (p := ⟨b, o + (k - 1) * 4, none⟩) hbl).trans (HPREV.out h0k)))))))))
      clear z0 z1 z2 z3 i1 i2 i3 he
      cases hok : stripeOk s x with
      | false =>
        have HOK := Lib.hid hok
        have HF : Hid ((stripesB s l && shapeOk s) = false) := Lib.hid (by rw [HFF.out (by rw [HAT.out, hok]; rfl)]; rfl)
        clear hok HNEXT
        go_wp2_with fail
        refine region_free (by kernel_rfl) (by kernel_rfl) 39 rfl [12, 13, 14, 15, 16, 17, 18, 19, 20, 21, 22, 23, 24, 25, 26, 27, 28, 29, 30, 31, 32, 33, 34, 35, 36] [5] [(17, 5)]
          [(12, [], fun _ => .agg #[.int .i64 s.K, .int .i64 s.M, .int .i64 s.size]), (13, [], fun _ => (.slice (some ⟨b, o, none⟩) n c)), (14, [], fun _ => .int .i64 (k : Int)), (15, [], fun _ => .pointer (some ⟨b, o + k * 4, none⟩)), (16, [], fun _ => .agg #[.int .i64 x.id, .int .i64 x.len, .int .i64 x.gen, .slice A3 n3 c3]), (18, [5], fun _ => .bool true), (19, [5], fun _ => .bool true), (20, [], fun _ => undef), (21, [], fun _ => undef), (22, [], fun _ => undef), (23, [], fun _ => undef), (24, [], fun _ => undef), (25, [], fun _ => undef), (26, [], fun _ => undef), (27, [], fun _ => undef), (28, [], fun _ => undef), (29, [], fun _ => undef), (30, [], fun _ => undef), (31, [], fun _ => undef), (32, [], fun _ => undef), (33, [], fun _ => undef), (34, [], fun _ => undef), (35, [], fun _ => undef), (36, [], fun _ => .bool true)]
          [] [] [[], [], [], [13, 14], [15], [12, 16], [17], [18], [19], [20, 19], [21, 19], [22], [22], [24, 22], [23, 25, 22], [26, 22], [27, 22], [22], [22], [29, 30, 22], [31, 22], [32, 22], [28, 33, 22], [22, 34, 19], [19, 35]]
          (WdB wr (fun i v _ => i = 5 → v = .bool false)) (by kernel_rfl) .init ⟨?_, ?_, ?_, ?_, ?_, ?_, ?_, ?_, ?_, ?_, ?_, ?_, ?_, ?_, ?_, ?_, ?_, ?_, ?_, ?_, ?_, ?_, ?_, ?_, ?_, trivial⟩ ?_
        · (refine OpH.rd rfl rfl (fun ρ us w6 ho ht hc hl hsrc hW => ?_); have e2 := (ho 2 rfl).trans (show _ = ((.pointer (some ⟨w.heap.size, 0, none⟩)) : Value) from rfl); obtain ⟨k0, k1, k2, z0, z1, z2, z3, zp⟩ := CEL.out w6 (HB.out.trans (hW.1.mono HB.out.size)); clear ht ho; simp only [execOp, e2]; go_simp; try rfl)
        · (refine OpH.rd rfl rfl (fun ρ us w6 ho ht hc hl hsrc hW => ?_); have e1 := (ho 1 rfl).trans (show _ = ((.slice (some ⟨b, o, none⟩) n c) : Value) from rfl); clear ht ho; simp only [execOp, e1]; go_simp; try rfl)
        · (refine OpH.rd rfl rfl (fun ρ us w6 ho ht hc hl hsrc hW => ?_); have e5 := (ho 5 rfl).trans (show _ = (.int .i64 (k : Int) : Value) from rfl); clear ht ho; simp only [execOp, e5]; go_simp; try rfl)
        · (refine OpH.rd rfl rfl (fun ρ us w6 ho ht hc hl hsrc hW => ?_); have e13 := (ht 13 (by decide)).trans (show _ = ((.slice (some ⟨b, o, none⟩) n c) : Value) from rfl); have e14 := (ht 14 (by decide)).trans (show _ = (.int .i64 (k : Int) : Value) from rfl); clear ht ho; simp only [execOp, e13, e14]; go_simp; try rfl)
        · (refine OpH.rd rfl rfl (fun ρ us w6 ho ht hc hl hsrc hW => ?_); have e15 := (ht 15 (by decide)).trans (show _ = (.pointer (some ⟨b, o + k * 4, none⟩) : Value) from rfl); obtain ⟨k0, k1, k2, z0, z1, z2, z3, zp⟩ := CEL.out w6 (HB.out.trans (hW.1.mono HB.out.size)); clear ht ho; simp only [execOp, e15]; go_simp; try rfl)
        · refine OpH.wr rfl (fun Z us w6 ho ht hni hlim hreq hW K hK => ?_)
          have e12 := (ht 12 (by decide)).trans (show _ = (.agg #[.int .i64 s.K, .int .i64 s.M, .int .i64 s.size] : Value) from rfl)
          have e16 := (ht 16 (by decide)).trans (show _ = (.agg #[.int .i64 x.id, .int .i64 x.len, .int .i64 x.gen, .slice A3 n3 c3] : Value) from rfl)
          have hcl := refStripe_c (w := w6) (s := s) (x := x) (HPL.out w6 (HB.out.trans (hW.1.mono HB.out.size)))
          rw [HOK.out] at hcl
          refine step_call rfl 49 #[.tmp 12, .tmp 16] #[23, 97] rfl Try.func49 (by kernel_rfl) (by kernel_rfl) #[.agg #[.int .i64 s.K, .int .i64 s.M, .int .i64 s.size], .agg #[.int .i64 x.id, .int .i64 x.len, .int .i64 x.gen, .slice A3 n3 c3]] (by simp [e12, e16]; try first | done | rfl | exact ⟨rfl, rfl⟩) (hcl) ?_
          rintro e w7 ⟨rfl, hb7⟩
          exact ⟨_, rfl, hK _ _ (hW.snoc hb7 (fun j v h => h) (fun _ => rfl))⟩
        · (refine OpH.rd rfl rfl (fun ρ us w6 ho ht hc hl hsrc hW => ?_); have e17 := (ht 17 (by decide)).trans (show _ = ((us.lookup 5).getD undef : Value) from rfl); rw [hW.at_ (hsrc 5 (by exact (List.mem_singleton.2 rfl : (5 : Nat) ∈ [5]))) rfl] at e17; clear ht ho; simp only [execOp, e17]; go_simp; try rfl)
        · (refine OpH.rd rfl rfl (fun ρ us w6 ho ht hc hl hsrc hW => ?_); have e18 := (ht 18 (by decide)).trans (show _ = (.bool true : Value) from rfl); clear ht ho; simp only [execOp, e18]; go_simp; try rfl)
        · (exact OpH.rdn rfl 7 19 false rfl rfl (by decide) (fun _ _ _ => rfl) (fun _ => rfl))
        · (exact OpH.rdn rfl 7 19 false rfl rfl (by decide) (fun _ _ _ => rfl) (fun _ => rfl))
        · (exact OpH.rdn rfl 7 19 false rfl rfl (by decide) (fun _ _ _ => rfl) (fun _ => rfl))
        · (exact OpH.rdu rfl 10 22 true rfl rfl (by decide) (fun _ _ _ => rfl) (fun _ => rfl))
        · (exact OpH.rdu rfl 10 22 true rfl rfl (by decide) (fun _ _ _ => rfl) (fun _ => rfl))
        · (exact OpH.rdu rfl 10 22 true rfl rfl (by decide) (fun _ _ _ => rfl) (fun _ => rfl))
        · (exact OpH.rdu rfl 10 22 true rfl rfl (by decide) (fun _ _ _ => rfl) (fun _ => rfl))
        · (exact OpH.rdu rfl 10 22 true rfl rfl (by decide) (fun _ _ _ => rfl) (fun _ => rfl))
        · (exact OpH.rdu rfl 10 22 true rfl rfl (by decide) (fun _ _ _ => rfl) (fun _ => rfl))
        · (exact OpH.rdu rfl 10 22 true rfl rfl (by decide) (fun _ _ _ => rfl) (fun _ => rfl))
        · (exact OpH.rdu rfl 10 22 true rfl rfl (by decide) (fun _ _ _ => rfl) (fun _ => rfl))
        · (exact OpH.rdu rfl 10 22 true rfl rfl (by decide) (fun _ _ _ => rfl) (fun _ => rfl))
        · (exact OpH.rdu rfl 10 22 true rfl rfl (by decide) (fun _ _ _ => rfl) (fun _ => rfl))
        · (exact OpH.rdu rfl 10 22 true rfl rfl (by decide) (fun _ _ _ => rfl) (fun _ => rfl))
        · (exact OpH.rdu rfl 10 22 true rfl rfl (by decide) (fun _ _ _ => rfl) (fun _ => rfl))
        · (exact OpH.rdn rfl 7 19 false rfl rfl (by decide) (fun _ _ _ => rfl) (fun _ => rfl))
        · (refine OpH.rd rfl rfl (fun ρ us w6 ho ht hc hl hsrc hW => ?_); have e19 := (ht 19 (by decide)).trans (show _ = (.bool true : Value) from rfl); have e35 := (ht 35 (by decide)).trans (show _ = (undef : Value) from rfl); clear ht ho; simp only [execOp, e19, e35]; go_simp; try rfl)
        · intro us w9 hmem hW
          simp only [putAll, List.map_cons, List.map_nil, List.foldl_cons, List.foldl_nil, Act.put, List.setIfInBounds_toArray, List.set_cons_succ, List.set_cons_zero]
          generalize hsv : slotAt _ _ us = sv
          have hq : sv 36 = .bool true := by rw [← hsv]; rfl
          rw [hq]
          have HB := Lib.hid (HB.out.trans (hW.1.mono HB.out.size))
          clear hsv hq hmem hW
          clear CEL HPL
          go_wp2
          go_ret
          exact ⟨by rw [HF.out]; rfl, HALL.out _ HB.out⟩
      | true =>
        have HOK := Lib.hid hok
        by_cases hk0 : 0 < k
        · have hk1 : k - 1 < n := by omega
          by_cases hle : x.id ≤ xp
          · have HF : Hid ((stripesB s l && shapeOk s) = false) := Lib.hid (by rw [HFF.out (by rw [HAT.out, hok, decide_eq_true hk0, decide_eq_true hle]; rfl)]; rfl)
            clear hok HNEXT
            go_wp2_with fail
            refine region_free (by kernel_rfl) (by kernel_rfl) 39 rfl [12, 13, 14, 15, 16, 17, 18, 19, 20, 21, 22, 23, 24, 25, 26, 27, 28, 29, 30, 31, 32, 33, 34, 35, 36] [5] [(17, 5)]
              [(12, [], fun _ => .agg #[.int .i64 s.K, .int .i64 s.M, .int .i64 s.size]), (13, [], fun _ => (.slice (some ⟨b, o, none⟩) n c)), (14, [], fun _ => .int .i64 (k : Int)), (15, [], fun _ => .pointer (some ⟨b, o + k * 4, none⟩)), (16, [], fun _ => .agg #[.int .i64 x.id, .int .i64 x.len, .int .i64 x.gen, .slice A3 n3 c3]), (18, [5], fun _ => .bool false), (19, [5], fun _ => .bool false), (20, [], fun _ => .int .i64 (k : Int)), (21, [], fun _ => .bool true), (22, [], fun _ => .bool true), (23, [], fun _ => (.slice (some ⟨b, o, none⟩) n c)), (24, [], fun _ => .int .i64 (k : Int)), (25, [], fun _ => .int .i64 ((k - 1 : Nat) : Int)), (26, [], fun _ => .pointer (some ⟨b, o + (k - 1) * 4, none⟩)), (27, [], fun _ => .pointer (some ⟨b, o + (k - 1) * 4, none⟩)), (28, [], fun _ => .int .i64 xp), (29, [], fun _ => (.slice (some ⟨b, o, none⟩) n c)), (30, [], fun _ => .int .i64 (k : Int)), (31, [], fun _ => .pointer (some ⟨b, o + k * 4, none⟩)), (32, [], fun _ => .pointer (some ⟨b, o + k * 4, none⟩)), (33, [], fun _ => .int .i64 x.id), (34, [], fun _ => .bool true), (35, [], fun _ => .bool true), (36, [], fun _ => .bool true)]
              [] [] [[], [], [], [13, 14], [15], [12, 16], [17], [18], [19], [20, 19], [21, 19], [22], [22], [24, 22], [23, 25, 22], [26, 22], [27, 22], [22], [22], [29, 30, 22], [31, 22], [32, 22], [28, 33, 22], [22, 34, 19], [19, 35]]
              (WdB wr (fun i v _ => i = 5 → v = .bool true)) (by kernel_rfl) .init ⟨?_, ?_, ?_, ?_, ?_, ?_, ?_, ?_, ?_, ?_, ?_, ?_, ?_, ?_, ?_, ?_, ?_, ?_, ?_, ?_, ?_, ?_, ?_, ?_, ?_, trivial⟩ ?_
            · (refine OpH.rd rfl rfl (fun ρ us w6 ho ht hc hl hsrc hW => ?_); have e2 := (ho 2 rfl).trans (show _ = ((.pointer (some ⟨w.heap.size, 0, none⟩)) : Value) from rfl); obtain ⟨k0, k1, k2, z0, z1, z2, z3, zp⟩ := CEL.out w6 (HB.out.trans (hW.1.mono HB.out.size)); clear ht ho; simp only [execOp, e2]; go_simp; try rfl)
            · (refine OpH.rd rfl rfl (fun ρ us w6 ho ht hc hl hsrc hW => ?_); have e1 := (ho 1 rfl).trans (show _ = ((.slice (some ⟨b, o, none⟩) n c) : Value) from rfl); clear ht ho; simp only [execOp, e1]; go_simp; try rfl)
            · (refine OpH.rd rfl rfl (fun ρ us w6 ho ht hc hl hsrc hW => ?_); have e5 := (ho 5 rfl).trans (show _ = (.int .i64 (k : Int) : Value) from rfl); clear ht ho; simp only [execOp, e5]; go_simp; try rfl)
            · (refine OpH.rd rfl rfl (fun ρ us w6 ho ht hc hl hsrc hW => ?_); have e13 := (ht 13 (by decide)).trans (show _ = ((.slice (some ⟨b, o, none⟩) n c) : Value) from rfl); have e14 := (ht 14 (by decide)).trans (show _ = (.int .i64 (k : Int) : Value) from rfl); clear ht ho; simp only [execOp, e13, e14]; go_simp; try rfl)
            · (refine OpH.rd rfl rfl (fun ρ us w6 ho ht hc hl hsrc hW => ?_); have e15 := (ht 15 (by decide)).trans (show _ = (.pointer (some ⟨b, o + k * 4, none⟩) : Value) from rfl); obtain ⟨k0, k1, k2, z0, z1, z2, z3, zp⟩ := CEL.out w6 (HB.out.trans (hW.1.mono HB.out.size)); clear ht ho; simp only [execOp, e15]; go_simp; try rfl)
            · refine OpH.wr rfl (fun Z us w6 ho ht hni hlim hreq hW K hK => ?_)
              have e12 := (ht 12 (by decide)).trans (show _ = (.agg #[.int .i64 s.K, .int .i64 s.M, .int .i64 s.size] : Value) from rfl)
              have e16 := (ht 16 (by decide)).trans (show _ = (.agg #[.int .i64 x.id, .int .i64 x.len, .int .i64 x.gen, .slice A3 n3 c3] : Value) from rfl)
              have hcl := refStripe_c (w := w6) (s := s) (x := x) (HPL.out w6 (HB.out.trans (hW.1.mono HB.out.size)))
              rw [HOK.out] at hcl
              refine step_call rfl 49 #[.tmp 12, .tmp 16] #[23, 97] rfl Try.func49 (by kernel_rfl) (by kernel_rfl) #[.agg #[.int .i64 s.K, .int .i64 s.M, .int .i64 s.size], .agg #[.int .i64 x.id, .int .i64 x.len, .int .i64 x.gen, .slice A3 n3 c3]] (by simp [e12, e16]; try first | done | rfl | exact ⟨rfl, rfl⟩) (hcl) ?_
              rintro e w7 ⟨rfl, hb7⟩
              exact ⟨_, rfl, hK _ _ (hW.snoc hb7 (fun j v h => h) (fun _ => rfl))⟩
            · (refine OpH.rd rfl rfl (fun ρ us w6 ho ht hc hl hsrc hW => ?_); have e17 := (ht 17 (by decide)).trans (show _ = ((us.lookup 5).getD undef : Value) from rfl); rw [hW.at_ (hsrc 5 (by exact (List.mem_singleton.2 rfl : (5 : Nat) ∈ [5]))) rfl] at e17; clear ht ho; simp only [execOp, e17]; go_simp; try rfl)
            · (refine OpH.rd rfl rfl (fun ρ us w6 ho ht hc hl hsrc hW => ?_); have e18 := (ht 18 (by decide)).trans (show _ = (.bool false : Value) from rfl); clear ht ho; simp only [execOp, e18]; go_simp; try rfl)
            · (refine OpH.rdg rfl 7 19 false rfl rfl (by decide) (fun _ _ _ => rfl) (fun ρ us w6 ho ht hc hl hsrc hW => ?_); have e5 := (ho 5 rfl).trans (show _ = (.int .i64 (k : Int) : Value) from rfl); clear ht ho; simp only [execOp, e5]; go_simp; try rfl)
            · (refine OpH.rdg rfl 7 19 false rfl rfl (by decide) (fun _ _ _ => rfl) (fun ρ us w6 ho ht hc hl hsrc hW => ?_); have e20 := (ht 20 (by decide)).trans (show _ = (.int .i64 (k : Int) : Value) from rfl); clear ht ho; simp only [execOp, e20]; go_simp; first | rfl | exact congrArg Value.bool (decide_eq_true (by omega)) | exact congrArg Value.bool (decide_eq_false (by omega)) | (simp; done) | (simp; omega))
            · (refine OpH.rdg rfl 7 19 false rfl rfl (by decide) (fun _ _ _ => rfl) (fun ρ us w6 ho ht hc hl hsrc hW => ?_); have e21 := (ht 21 (by decide)).trans (show _ = (.bool true : Value) from rfl); clear ht ho; simp only [execOp, e21]; go_simp; try rfl)
            · (refine OpH.rdg rfl 10 22 true rfl rfl (by decide) (fun _ _ _ => rfl) (fun ρ us w6 ho ht hc hl hsrc hW => ?_); have e1 := (ho 1 rfl).trans (show _ = ((.slice (some ⟨b, o, none⟩) n c) : Value) from rfl); clear ht ho; simp only [execOp, e1]; go_simp; try rfl)
            · (refine OpH.rdg rfl 10 22 true rfl rfl (by decide) (fun _ _ _ => rfl) (fun ρ us w6 ho ht hc hl hsrc hW => ?_); have e5 := (ho 5 rfl).trans (show _ = (.int .i64 (k : Int) : Value) from rfl); clear ht ho; simp only [execOp, e5]; go_simp; try rfl)
            · (refine OpH.rdg rfl 10 22 true rfl rfl (by decide) (fun _ _ _ => rfl) (fun ρ us w6 ho ht hc hl hsrc hW => ?_); have e24 := (ht 24 (by decide)).trans (show _ = (.int .i64 (k : Int) : Value) from rfl); clear ht ho; simp only [execOp, e24]; go_simp; exact (congrArg (Value.int .i64) (Go.IntWalk.i64_in _ (by omega))).trans (congrArg (Value.int .i64) (by omega)))
            · (refine OpH.rdg rfl 10 22 true rfl rfl (by decide) (fun _ _ _ => rfl) (fun ρ us w6 ho ht hc hl hsrc hW => ?_); have e23 := (ht 23 (by decide)).trans (show _ = ((.slice (some ⟨b, o, none⟩) n c) : Value) from rfl); have e25 := (ht 25 (by decide)).trans (show _ = (.int .i64 ((k - 1 : Nat) : Int) : Value) from rfl); clear ht ho; simp only [execOp, e23, e25]; go_simp; try rfl)
            · (refine OpH.rdg rfl 10 22 true rfl rfl (by decide) (fun _ _ _ => rfl) (fun ρ us w6 ho ht hc hl hsrc hW => ?_); have e26 := (ht 26 (by decide)).trans (show _ = (.pointer (some ⟨b, o + (k - 1) * 4, none⟩) : Value) from rfl); clear ht ho; simp only [execOp, e26]; go_simp; try rfl)
            · (refine OpH.rdg rfl 10 22 true rfl rfl (by decide) (fun _ _ _ => rfl) (fun ρ us w6 ho ht hc hl hsrc hW => ?_); have e27 := (ht 27 (by decide)).trans (show _ = (.pointer (some ⟨b, o + (k - 1) * 4, none⟩) : Value) from rfl); obtain ⟨k0, k1, k2, z0, z1, z2, z3, zp⟩ := CEL.out w6 (HB.out.trans (hW.1.mono HB.out.size)); clear ht ho; simp only [execOp, e27]; go_simp; try rfl)
            · (refine OpH.rdg rfl 10 22 true rfl rfl (by decide) (fun _ _ _ => rfl) (fun ρ us w6 ho ht hc hl hsrc hW => ?_); have e1 := (ho 1 rfl).trans (show _ = ((.slice (some ⟨b, o, none⟩) n c) : Value) from rfl); clear ht ho; simp only [execOp, e1]; go_simp; try rfl)
            · (refine OpH.rdg rfl 10 22 true rfl rfl (by decide) (fun _ _ _ => rfl) (fun ρ us w6 ho ht hc hl hsrc hW => ?_); have e5 := (ho 5 rfl).trans (show _ = (.int .i64 (k : Int) : Value) from rfl); clear ht ho; simp only [execOp, e5]; go_simp; try rfl)
            · (refine OpH.rdg rfl 10 22 true rfl rfl (by decide) (fun _ _ _ => rfl) (fun ρ us w6 ho ht hc hl hsrc hW => ?_); have e29 := (ht 29 (by decide)).trans (show _ = ((.slice (some ⟨b, o, none⟩) n c) : Value) from rfl); have e30 := (ht 30 (by decide)).trans (show _ = (.int .i64 (k : Int) : Value) from rfl); clear ht ho; simp only [execOp, e29, e30]; go_simp; try rfl)
            · (refine OpH.rdg rfl 10 22 true rfl rfl (by decide) (fun _ _ _ => rfl) (fun ρ us w6 ho ht hc hl hsrc hW => ?_); have e31 := (ht 31 (by decide)).trans (show _ = (.pointer (some ⟨b, o + k * 4, none⟩) : Value) from rfl); clear ht ho; simp only [execOp, e31]; go_simp; try rfl)
            · (refine OpH.rdg rfl 10 22 true rfl rfl (by decide) (fun _ _ _ => rfl) (fun ρ us w6 ho ht hc hl hsrc hW => ?_); have e32 := (ht 32 (by decide)).trans (show _ = (.pointer (some ⟨b, o + k * 4, none⟩) : Value) from rfl); obtain ⟨k0, k1, k2, z0, z1, z2, z3, zp⟩ := CEL.out w6 (HB.out.trans (hW.1.mono HB.out.size)); clear ht ho; simp only [execOp, e32]; go_simp; try rfl)
            · (refine OpH.rdg rfl 10 22 true rfl rfl (by decide) (fun _ _ _ => rfl) (fun ρ us w6 ho ht hc hl hsrc hW => ?_); have e28 := (ht 28 (by decide)).trans (show _ = (.int .i64 xp : Value) from rfl); have e33 := (ht 33 (by decide)).trans (show _ = (.int .i64 x.id : Value) from rfl); clear ht ho; simp only [execOp, e28, e33]; go_simp; first | rfl | exact congrArg Value.bool (decide_eq_true (by omega)) | exact congrArg Value.bool (decide_eq_false (by omega)) | (simp; done) | (simp; omega))
            · (refine OpH.rdg rfl 7 19 false rfl rfl (by decide) (fun _ _ _ => rfl) (fun ρ us w6 ho ht hc hl hsrc hW => ?_); have e22 := (ht 22 (by decide)).trans (show _ = (.bool true : Value) from rfl); have e34 := (ht 34 (by decide)).trans (show _ = (.bool true : Value) from rfl); clear ht ho; simp only [execOp, e22, e34]; go_simp; try rfl)
            · (refine OpH.rd rfl rfl (fun ρ us w6 ho ht hc hl hsrc hW => ?_); have e19 := (ht 19 (by decide)).trans (show _ = (.bool false : Value) from rfl); have e35 := (ht 35 (by decide)).trans (show _ = (.bool true : Value) from rfl); clear ht ho; simp only [execOp, e19, e35]; go_simp; try rfl)
            · intro us w9 hmem hW
              simp only [putAll, List.map_cons, List.map_nil, List.foldl_cons, List.foldl_nil, Act.put, List.setIfInBounds_toArray, List.set_cons_succ, List.set_cons_zero]
              generalize hsv : slotAt _ _ us = sv
              have hq : sv 36 = .bool true := by rw [← hsv]; rfl
              rw [hq]
              have HB := Lib.hid (HB.out.trans (hW.1.mono HB.out.size))
              clear hsv hq hmem hW
              clear CEL HPL
              go_wp2
              go_ret
              exact ⟨by rw [HF.out]; rfl, HALL.out _ HB.out⟩
          · have HF := Lib.hid (HNEXT.out (by rw [HAT.out, hok, decide_eq_true hk0, decide_eq_false hle]; rfl))
            clear hok HNEXT
            go_wp2_with fail
            refine region_free (by kernel_rfl) (by kernel_rfl) 39 rfl [12, 13, 14, 15, 16, 17, 18, 19, 20, 21, 22, 23, 24, 25, 26, 27, 28, 29, 30, 31, 32, 33, 34, 35, 36] [5] [(17, 5)]
              [(12, [], fun _ => .agg #[.int .i64 s.K, .int .i64 s.M, .int .i64 s.size]), (13, [], fun _ => (.slice (some ⟨b, o, none⟩) n c)), (14, [], fun _ => .int .i64 (k : Int)), (15, [], fun _ => .pointer (some ⟨b, o + k * 4, none⟩)), (16, [], fun _ => .agg #[.int .i64 x.id, .int .i64 x.len, .int .i64 x.gen, .slice A3 n3 c3]), (18, [5], fun _ => .bool false), (19, [5], fun _ => .bool false), (20, [], fun _ => .int .i64 (k : Int)), (21, [], fun _ => .bool true), (22, [], fun _ => .bool true), (23, [], fun _ => (.slice (some ⟨b, o, none⟩) n c)), (24, [], fun _ => .int .i64 (k : Int)), (25, [], fun _ => .int .i64 ((k - 1 : Nat) : Int)), (26, [], fun _ => .pointer (some ⟨b, o + (k - 1) * 4, none⟩)), (27, [], fun _ => .pointer (some ⟨b, o + (k - 1) * 4, none⟩)), (28, [], fun _ => .int .i64 xp), (29, [], fun _ => (.slice (some ⟨b, o, none⟩) n c)), (30, [], fun _ => .int .i64 (k : Int)), (31, [], fun _ => .pointer (some ⟨b, o + k * 4, none⟩)), (32, [], fun _ => .pointer (some ⟨b, o + k * 4, none⟩)), (33, [], fun _ => .int .i64 x.id), (34, [], fun _ => .bool false), (35, [], fun _ => .bool false), (36, [], fun _ => .bool false)]
              [] [] [[], [], [], [13, 14], [15], [12, 16], [17], [18], [19], [20, 19], [21, 19], [22], [22], [24, 22], [23, 25, 22], [26, 22], [27, 22], [22], [22], [29, 30, 22], [31, 22], [32, 22], [28, 33, 22], [22, 34, 19], [19, 35]]
              (WdB wr (fun i v _ => i = 5 → v = .bool true)) (by kernel_rfl) .init ⟨?_, ?_, ?_, ?_, ?_, ?_, ?_, ?_, ?_, ?_, ?_, ?_, ?_, ?_, ?_, ?_, ?_, ?_, ?_, ?_, ?_, ?_, ?_, ?_, ?_, trivial⟩ ?_
            · (refine OpH.rd rfl rfl (fun ρ us w6 ho ht hc hl hsrc hW => ?_); have e2 := (ho 2 rfl).trans (show _ = ((.pointer (some ⟨w.heap.size, 0, none⟩)) : Value) from rfl); obtain ⟨k0, k1, k2, z0, z1, z2, z3, zp⟩ := CEL.out w6 (HB.out.trans (hW.1.mono HB.out.size)); clear ht ho; simp only [execOp, e2]; go_simp; try rfl)
            · (refine OpH.rd rfl rfl (fun ρ us w6 ho ht hc hl hsrc hW => ?_); have e1 := (ho 1 rfl).trans (show _ = ((.slice (some ⟨b, o, none⟩) n c) : Value) from rfl); clear ht ho; simp only [execOp, e1]; go_simp; try rfl)
            · (refine OpH.rd rfl rfl (fun ρ us w6 ho ht hc hl hsrc hW => ?_); have e5 := (ho 5 rfl).trans (show _ = (.int .i64 (k : Int) : Value) from rfl); clear ht ho; simp only [execOp, e5]; go_simp; try rfl)
            · (refine OpH.rd rfl rfl (fun ρ us w6 ho ht hc hl hsrc hW => ?_); have e13 := (ht 13 (by decide)).trans (show _ = ((.slice (some ⟨b, o, none⟩) n c) : Value) from rfl); have e14 := (ht 14 (by decide)).trans (show _ = (.int .i64 (k : Int) : Value) from rfl); clear ht ho; simp only [execOp, e13, e14]; go_simp; try rfl)
            · (refine OpH.rd rfl rfl (fun ρ us w6 ho ht hc hl hsrc hW => ?_); have e15 := (ht 15 (by decide)).trans (show _ = (.pointer (some ⟨b, o + k * 4, none⟩) : Value) from rfl); obtain ⟨k0, k1, k2, z0, z1, z2, z3, zp⟩ := CEL.out w6 (HB.out.trans (hW.1.mono HB.out.size)); clear ht ho; simp only [execOp, e15]; go_simp; try rfl)
            · refine OpH.wr rfl (fun Z us w6 ho ht hni hlim hreq hW K hK => ?_)
              have e12 := (ht 12 (by decide)).trans (show _ = (.agg #[.int .i64 s.K, .int .i64 s.M, .int .i64 s.size] : Value) from rfl)
              have e16 := (ht 16 (by decide)).trans (show _ = (.agg #[.int .i64 x.id, .int .i64 x.len, .int .i64 x.gen, .slice A3 n3 c3] : Value) from rfl)
              have hcl := refStripe_c (w := w6) (s := s) (x := x) (HPL.out w6 (HB.out.trans (hW.1.mono HB.out.size)))
              rw [HOK.out] at hcl
              refine step_call rfl 49 #[.tmp 12, .tmp 16] #[23, 97] rfl Try.func49 (by kernel_rfl) (by kernel_rfl) #[.agg #[.int .i64 s.K, .int .i64 s.M, .int .i64 s.size], .agg #[.int .i64 x.id, .int .i64 x.len, .int .i64 x.gen, .slice A3 n3 c3]] (by simp [e12, e16]; try first | done | rfl | exact ⟨rfl, rfl⟩) (hcl) ?_
              rintro e w7 ⟨rfl, hb7⟩
              exact ⟨_, rfl, hK _ _ (hW.snoc hb7 (fun j v h => h) (fun _ => rfl))⟩
            · (refine OpH.rd rfl rfl (fun ρ us w6 ho ht hc hl hsrc hW => ?_); have e17 := (ht 17 (by decide)).trans (show _ = ((us.lookup 5).getD undef : Value) from rfl); rw [hW.at_ (hsrc 5 (by exact (List.mem_singleton.2 rfl : (5 : Nat) ∈ [5]))) rfl] at e17; clear ht ho; simp only [execOp, e17]; go_simp; try rfl)
            · (refine OpH.rd rfl rfl (fun ρ us w6 ho ht hc hl hsrc hW => ?_); have e18 := (ht 18 (by decide)).trans (show _ = (.bool false : Value) from rfl); clear ht ho; simp only [execOp, e18]; go_simp; try rfl)
            · (refine OpH.rdg rfl 7 19 false rfl rfl (by decide) (fun _ _ _ => rfl) (fun ρ us w6 ho ht hc hl hsrc hW => ?_); have e5 := (ho 5 rfl).trans (show _ = (.int .i64 (k : Int) : Value) from rfl); clear ht ho; simp only [execOp, e5]; go_simp; try rfl)
            · (refine OpH.rdg rfl 7 19 false rfl rfl (by decide) (fun _ _ _ => rfl) (fun ρ us w6 ho ht hc hl hsrc hW => ?_); have e20 := (ht 20 (by decide)).trans (show _ = (.int .i64 (k : Int) : Value) from rfl); clear ht ho; simp only [execOp, e20]; go_simp; first | rfl | exact congrArg Value.bool (decide_eq_true (by omega)) | exact congrArg Value.bool (decide_eq_false (by omega)) | (simp; done) | (simp; omega))
            · (refine OpH.rdg rfl 7 19 false rfl rfl (by decide) (fun _ _ _ => rfl) (fun ρ us w6 ho ht hc hl hsrc hW => ?_); have e21 := (ht 21 (by decide)).trans (show _ = (.bool true : Value) from rfl); clear ht ho; simp only [execOp, e21]; go_simp; try rfl)
            · (refine OpH.rdg rfl 10 22 true rfl rfl (by decide) (fun _ _ _ => rfl) (fun ρ us w6 ho ht hc hl hsrc hW => ?_); have e1 := (ho 1 rfl).trans (show _ = ((.slice (some ⟨b, o, none⟩) n c) : Value) from rfl); clear ht ho; simp only [execOp, e1]; go_simp; try rfl)
            · (refine OpH.rdg rfl 10 22 true rfl rfl (by decide) (fun _ _ _ => rfl) (fun ρ us w6 ho ht hc hl hsrc hW => ?_); have e5 := (ho 5 rfl).trans (show _ = (.int .i64 (k : Int) : Value) from rfl); clear ht ho; simp only [execOp, e5]; go_simp; try rfl)
            · (refine OpH.rdg rfl 10 22 true rfl rfl (by decide) (fun _ _ _ => rfl) (fun ρ us w6 ho ht hc hl hsrc hW => ?_); have e24 := (ht 24 (by decide)).trans (show _ = (.int .i64 (k : Int) : Value) from rfl); clear ht ho; simp only [execOp, e24]; go_simp; exact (congrArg (Value.int .i64) (Go.IntWalk.i64_in _ (by omega))).trans (congrArg (Value.int .i64) (by omega)))
            · (refine OpH.rdg rfl 10 22 true rfl rfl (by decide) (fun _ _ _ => rfl) (fun ρ us w6 ho ht hc hl hsrc hW => ?_); have e23 := (ht 23 (by decide)).trans (show _ = ((.slice (some ⟨b, o, none⟩) n c) : Value) from rfl); have e25 := (ht 25 (by decide)).trans (show _ = (.int .i64 ((k - 1 : Nat) : Int) : Value) from rfl); clear ht ho; simp only [execOp, e23, e25]; go_simp; try rfl)
            · (refine OpH.rdg rfl 10 22 true rfl rfl (by decide) (fun _ _ _ => rfl) (fun ρ us w6 ho ht hc hl hsrc hW => ?_); have e26 := (ht 26 (by decide)).trans (show _ = (.pointer (some ⟨b, o + (k - 1) * 4, none⟩) : Value) from rfl); clear ht ho; simp only [execOp, e26]; go_simp; try rfl)
            · (refine OpH.rdg rfl 10 22 true rfl rfl (by decide) (fun _ _ _ => rfl) (fun ρ us w6 ho ht hc hl hsrc hW => ?_); have e27 := (ht 27 (by decide)).trans (show _ = (.pointer (some ⟨b, o + (k - 1) * 4, none⟩) : Value) from rfl); obtain ⟨k0, k1, k2, z0, z1, z2, z3, zp⟩ := CEL.out w6 (HB.out.trans (hW.1.mono HB.out.size)); clear ht ho; simp only [execOp, e27]; go_simp; try rfl)
            · (refine OpH.rdg rfl 10 22 true rfl rfl (by decide) (fun _ _ _ => rfl) (fun ρ us w6 ho ht hc hl hsrc hW => ?_); have e1 := (ho 1 rfl).trans (show _ = ((.slice (some ⟨b, o, none⟩) n c) : Value) from rfl); clear ht ho; simp only [execOp, e1]; go_simp; try rfl)
            · (refine OpH.rdg rfl 10 22 true rfl rfl (by decide) (fun _ _ _ => rfl) (fun ρ us w6 ho ht hc hl hsrc hW => ?_); have e5 := (ho 5 rfl).trans (show _ = (.int .i64 (k : Int) : Value) from rfl); clear ht ho; simp only [execOp, e5]; go_simp; try rfl)
            · (refine OpH.rdg rfl 10 22 true rfl rfl (by decide) (fun _ _ _ => rfl) (fun ρ us w6 ho ht hc hl hsrc hW => ?_); have e29 := (ht 29 (by decide)).trans (show _ = ((.slice (some ⟨b, o, none⟩) n c) : Value) from rfl); have e30 := (ht 30 (by decide)).trans (show _ = (.int .i64 (k : Int) : Value) from rfl); clear ht ho; simp only [execOp, e29, e30]; go_simp; try rfl)
            · (refine OpH.rdg rfl 10 22 true rfl rfl (by decide) (fun _ _ _ => rfl) (fun ρ us w6 ho ht hc hl hsrc hW => ?_); have e31 := (ht 31 (by decide)).trans (show _ = (.pointer (some ⟨b, o + k * 4, none⟩) : Value) from rfl); clear ht ho; simp only [execOp, e31]; go_simp; try rfl)
            · (refine OpH.rdg rfl 10 22 true rfl rfl (by decide) (fun _ _ _ => rfl) (fun ρ us w6 ho ht hc hl hsrc hW => ?_); have e32 := (ht 32 (by decide)).trans (show _ = (.pointer (some ⟨b, o + k * 4, none⟩) : Value) from rfl); obtain ⟨k0, k1, k2, z0, z1, z2, z3, zp⟩ := CEL.out w6 (HB.out.trans (hW.1.mono HB.out.size)); clear ht ho; simp only [execOp, e32]; go_simp; try rfl)
            · (refine OpH.rdg rfl 10 22 true rfl rfl (by decide) (fun _ _ _ => rfl) (fun ρ us w6 ho ht hc hl hsrc hW => ?_); have e28 := (ht 28 (by decide)).trans (show _ = (.int .i64 xp : Value) from rfl); have e33 := (ht 33 (by decide)).trans (show _ = (.int .i64 x.id : Value) from rfl); clear ht ho; simp only [execOp, e28, e33]; go_simp; first | rfl | exact congrArg Value.bool (decide_eq_true (by omega)) | exact congrArg Value.bool (decide_eq_false (by omega)) | (simp; done) | (simp; omega))
            · (refine OpH.rdg rfl 7 19 false rfl rfl (by decide) (fun _ _ _ => rfl) (fun ρ us w6 ho ht hc hl hsrc hW => ?_); have e22 := (ht 22 (by decide)).trans (show _ = (.bool true : Value) from rfl); have e34 := (ht 34 (by decide)).trans (show _ = (.bool false : Value) from rfl); clear ht ho; simp only [execOp, e22, e34]; go_simp; try rfl)
            · (refine OpH.rd rfl rfl (fun ρ us w6 ho ht hc hl hsrc hW => ?_); have e19 := (ht 19 (by decide)).trans (show _ = (.bool false : Value) from rfl); have e35 := (ht 35 (by decide)).trans (show _ = (.bool false : Value) from rfl); clear ht ho; simp only [execOp, e19, e35]; go_simp; try rfl)
            · intro us w9 hmem hW
              simp only [putAll, List.map_cons, List.map_nil, List.foldl_cons, List.foldl_nil, Act.put, List.setIfInBounds_toArray, List.set_cons_succ, List.set_cons_zero]
              generalize hsv : slotAt _ _ us = sv
              have hq : sv 36 = .bool false := by rw [← hsv]; rfl
              rw [hq]
              have HB := Lib.hid (HB.out.trans (hW.1.mono HB.out.size))
              clear hsv hq hmem hW
              clear CEL HPL
              go_wp2
              exact ⟨⟨k + 1, by omega, by go_num, HB, HF⟩, by simp [intOf]; omega⟩
        · have HF := Lib.hid (HNEXT.out (by rw [HAT.out, hok, decide_eq_false hk0]; rfl))
          clear hok HNEXT
          go_wp2_with fail
          refine region_free (by kernel_rfl) (by kernel_rfl) 39 rfl [12, 13, 14, 15, 16, 17, 18, 19, 20, 21, 22, 23, 24, 25, 26, 27, 28, 29, 30, 31, 32, 33, 34, 35, 36] [5] [(17, 5)]
            [(12, [], fun _ => .agg #[.int .i64 s.K, .int .i64 s.M, .int .i64 s.size]), (13, [], fun _ => (.slice (some ⟨b, o, none⟩) n c)), (14, [], fun _ => .int .i64 (k : Int)), (15, [], fun _ => .pointer (some ⟨b, o + k * 4, none⟩)), (16, [], fun _ => .agg #[.int .i64 x.id, .int .i64 x.len, .int .i64 x.gen, .slice A3 n3 c3]), (18, [5], fun _ => .bool false), (19, [5], fun _ => .bool false), (20, [], fun _ => .int .i64 (k : Int)), (21, [], fun _ => .bool false), (22, [], fun _ => .bool false), (23, [], fun _ => undef), (24, [], fun _ => undef), (25, [], fun _ => undef), (26, [], fun _ => undef), (27, [], fun _ => undef), (28, [], fun _ => undef), (29, [], fun _ => undef), (30, [], fun _ => undef), (31, [], fun _ => undef), (32, [], fun _ => undef), (33, [], fun _ => undef), (34, [], fun _ => undef), (35, [], fun _ => .bool false), (36, [], fun _ => .bool false)]
            [] [] [[], [], [], [13, 14], [15], [12, 16], [17], [18], [19], [20, 19], [21, 19], [22], [22], [24, 22], [23, 25, 22], [26, 22], [27, 22], [22], [22], [29, 30, 22], [31, 22], [32, 22], [28, 33, 22], [22, 34, 19], [19, 35]]
            (WdB wr (fun i v _ => i = 5 → v = .bool true)) (by kernel_rfl) .init ⟨?_, ?_, ?_, ?_, ?_, ?_, ?_, ?_, ?_, ?_, ?_, ?_, ?_, ?_, ?_, ?_, ?_, ?_, ?_, ?_, ?_, ?_, ?_, ?_, ?_, trivial⟩ ?_
          · (refine OpH.rd rfl rfl (fun ρ us w6 ho ht hc hl hsrc hW => ?_); have e2 := (ho 2 rfl).trans (show _ = ((.pointer (some ⟨w.heap.size, 0, none⟩)) : Value) from rfl); obtain ⟨k0, k1, k2, z0, z1, z2, z3, zp⟩ := CEL.out w6 (HB.out.trans (hW.1.mono HB.out.size)); clear ht ho; simp only [execOp, e2]; go_simp; try rfl)
          · (refine OpH.rd rfl rfl (fun ρ us w6 ho ht hc hl hsrc hW => ?_); have e1 := (ho 1 rfl).trans (show _ = ((.slice (some ⟨b, o, none⟩) n c) : Value) from rfl); clear ht ho; simp only [execOp, e1]; go_simp; try rfl)
          · (refine OpH.rd rfl rfl (fun ρ us w6 ho ht hc hl hsrc hW => ?_); have e5 := (ho 5 rfl).trans (show _ = (.int .i64 (k : Int) : Value) from rfl); clear ht ho; simp only [execOp, e5]; go_simp; try rfl)
          · (refine OpH.rd rfl rfl (fun ρ us w6 ho ht hc hl hsrc hW => ?_); have e13 := (ht 13 (by decide)).trans (show _ = ((.slice (some ⟨b, o, none⟩) n c) : Value) from rfl); have e14 := (ht 14 (by decide)).trans (show _ = (.int .i64 (k : Int) : Value) from rfl); clear ht ho; simp only [execOp, e13, e14]; go_simp; try rfl)
          · (refine OpH.rd rfl rfl (fun ρ us w6 ho ht hc hl hsrc hW => ?_); have e15 := (ht 15 (by decide)).trans (show _ = (.pointer (some ⟨b, o + k * 4, none⟩) : Value) from rfl); obtain ⟨k0, k1, k2, z0, z1, z2, z3, zp⟩ := CEL.out w6 (HB.out.trans (hW.1.mono HB.out.size)); clear ht ho; simp only [execOp, e15]; go_simp; try rfl)
          · refine OpH.wr rfl (fun Z us w6 ho ht hni hlim hreq hW K hK => ?_)
            have e12 := (ht 12 (by decide)).trans (show _ = (.agg #[.int .i64 s.K, .int .i64 s.M, .int .i64 s.size] : Value) from rfl)
            have e16 := (ht 16 (by decide)).trans (show _ = (.agg #[.int .i64 x.id, .int .i64 x.len, .int .i64 x.gen, .slice A3 n3 c3] : Value) from rfl)
            have hcl := refStripe_c (w := w6) (s := s) (x := x) (HPL.out w6 (HB.out.trans (hW.1.mono HB.out.size)))
            rw [HOK.out] at hcl
            refine step_call rfl 49 #[.tmp 12, .tmp 16] #[23, 97] rfl Try.func49 (by kernel_rfl) (by kernel_rfl) #[.agg #[.int .i64 s.K, .int .i64 s.M, .int .i64 s.size], .agg #[.int .i64 x.id, .int .i64 x.len, .int .i64 x.gen, .slice A3 n3 c3]] (by simp [e12, e16]; try first | done | rfl | exact ⟨rfl, rfl⟩) (hcl) ?_
            rintro e w7 ⟨rfl, hb7⟩
            exact ⟨_, rfl, hK _ _ (hW.snoc hb7 (fun j v h => h) (fun _ => rfl))⟩
          · (refine OpH.rd rfl rfl (fun ρ us w6 ho ht hc hl hsrc hW => ?_); have e17 := (ht 17 (by decide)).trans (show _ = ((us.lookup 5).getD undef : Value) from rfl); rw [hW.at_ (hsrc 5 (by exact (List.mem_singleton.2 rfl : (5 : Nat) ∈ [5]))) rfl] at e17; clear ht ho; simp only [execOp, e17]; go_simp; try rfl)
          · (refine OpH.rd rfl rfl (fun ρ us w6 ho ht hc hl hsrc hW => ?_); have e18 := (ht 18 (by decide)).trans (show _ = (.bool false : Value) from rfl); clear ht ho; simp only [execOp, e18]; go_simp; try rfl)
          · (refine OpH.rdg rfl 7 19 false rfl rfl (by decide) (fun _ _ _ => rfl) (fun ρ us w6 ho ht hc hl hsrc hW => ?_); have e5 := (ho 5 rfl).trans (show _ = (.int .i64 (k : Int) : Value) from rfl); clear ht ho; simp only [execOp, e5]; go_simp; try rfl)
          · (refine OpH.rdg rfl 7 19 false rfl rfl (by decide) (fun _ _ _ => rfl) (fun ρ us w6 ho ht hc hl hsrc hW => ?_); have e20 := (ht 20 (by decide)).trans (show _ = (.int .i64 (k : Int) : Value) from rfl); clear ht ho; simp only [execOp, e20]; go_simp; first | rfl | exact congrArg Value.bool (decide_eq_true (by omega)) | exact congrArg Value.bool (decide_eq_false (by omega)) | (simp; done) | (simp; omega))
          · (refine OpH.rdg rfl 7 19 false rfl rfl (by decide) (fun _ _ _ => rfl) (fun ρ us w6 ho ht hc hl hsrc hW => ?_); have e21 := (ht 21 (by decide)).trans (show _ = (.bool false : Value) from rfl); clear ht ho; simp only [execOp, e21]; go_simp; try rfl)
          · (exact OpH.rdn rfl 10 22 true rfl rfl (by decide) (fun _ _ _ => rfl) (fun _ => rfl))
          · (exact OpH.rdn rfl 10 22 true rfl rfl (by decide) (fun _ _ _ => rfl) (fun _ => rfl))
          · (exact OpH.rdn rfl 10 22 true rfl rfl (by decide) (fun _ _ _ => rfl) (fun _ => rfl))
          · (exact OpH.rdn rfl 10 22 true rfl rfl (by decide) (fun _ _ _ => rfl) (fun _ => rfl))
          · (exact OpH.rdn rfl 10 22 true rfl rfl (by decide) (fun _ _ _ => rfl) (fun _ => rfl))
          · (exact OpH.rdn rfl 10 22 true rfl rfl (by decide) (fun _ _ _ => rfl) (fun _ => rfl))
          · (exact OpH.rdn rfl 10 22 true rfl rfl (by decide) (fun _ _ _ => rfl) (fun _ => rfl))
          · (exact OpH.rdn rfl 10 22 true rfl rfl (by decide) (fun _ _ _ => rfl) (fun _ => rfl))
          · (exact OpH.rdn rfl 10 22 true rfl rfl (by decide) (fun _ _ _ => rfl) (fun _ => rfl))
          · (exact OpH.rdn rfl 10 22 true rfl rfl (by decide) (fun _ _ _ => rfl) (fun _ => rfl))
          · (exact OpH.rdn rfl 10 22 true rfl rfl (by decide) (fun _ _ _ => rfl) (fun _ => rfl))
          · (exact OpH.rdn rfl 10 22 true rfl rfl (by decide) (fun _ _ _ => rfl) (fun _ => rfl))
          · (refine OpH.rdg rfl 7 19 false rfl rfl (by decide) (fun _ _ _ => rfl) (fun ρ us w6 ho ht hc hl hsrc hW => ?_); have e22 := (ht 22 (by decide)).trans (show _ = (.bool false : Value) from rfl); have e34 := (ht 34 (by decide)).trans (show _ = (undef : Value) from rfl); clear ht ho; simp only [execOp, e22, e34]; go_simp; try rfl)
          · (refine OpH.rd rfl rfl (fun ρ us w6 ho ht hc hl hsrc hW => ?_); have e19 := (ht 19 (by decide)).trans (show _ = (.bool false : Value) from rfl); have e35 := (ht 35 (by decide)).trans (show _ = (.bool false : Value) from rfl); clear ht ho; simp only [execOp, e19, e35]; go_simp; try rfl)
          · intro us w9 hmem hW
            simp only [putAll, List.map_cons, List.map_nil, List.foldl_cons, List.foldl_nil, Act.put, List.setIfInBounds_toArray, List.set_cons_succ, List.set_cons_zero]
            generalize hsv : slotAt _ _ us = sv
            have hq : sv 36 = .bool false := by rw [← hsv]; rfl
            rw [hq]
            have HB := Lib.hid (HB.out.trans (hW.1.mono HB.out.size))
            clear hsv hq hmem hW
            clear CEL HPL
            go_wp2
            exact ⟨⟨k + 1, by omega, by go_num, HB, HF⟩, by simp [intOf]; omega⟩
    · have HF : Hid (stripesB s l = true) := Lib.hid (stripesB_true (fun j hj => he.out j (by have := HL.out; omega)))
      obtain ⟨k0, k1, k2⟩ := ROW.out wr HB.out
      go_wp2_with fail
      refine (refShape_c (s := s)).mono ?_
      clear k0 k1 k2
      rintro r w9 ⟨rfl, hb9⟩
      have HB9 := Lib.hid (HB.out.trans (hb9.mono HB.out.size)); clear hb9
      go_wp2
      go_ret
      exact ⟨by rw [HF.out]; rfl, HALL.out _ HB9.out⟩
end Go.Proofs.Ytjeecdoffoahkaa
