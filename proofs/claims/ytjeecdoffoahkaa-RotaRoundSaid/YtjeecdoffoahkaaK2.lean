/- siloref16: Spread, Stripes. Printed by gen_k2.py. -/
import Derived.Test.YtjeecdoffoahkaaE3
import Derived.Test.YtjeecdoffoahkaaB6
import Derived.Test.YtjeecdoffoahkaaE8
-- from K1
namespace Go.Proofs.Ytjeecdoffoahkaa
open Go.RowKit Go.Silo

/-- Which piece lies on a disk. -/
def onX (l : List Slot) (d : Int) : Int := idxOf (sameDisk d) l
theorem placeOn_c {tg : Bool} {S : Nat → Prop} {w : World} {A : Option Addr} {n c : Nat} {x : Stripe} {d : Int} (h : Sl tg 112 slotE w S A n c x.place) :
    Calls Try.prog 92 #[.agg #[.int .i64 x.id, .int .i64 x.len, .int .i64 x.gen, .slice A n c], .int .i64 d] w (RetV (.int .i64 (onX x.place d)) w) := by
  have hal : Below w.heap.size w (w.alloc (.cells #[.int .i64 x.id, .int .i64 x.len, .int .i64 x.gen, .slice A n c] 97)) := (Below.refl _ _).alloc (Nat.le_refl _) _
  have hal2 : Below w.heap.size w ((w.alloc (.cells #[.int .i64 x.id, .int .i64 x.len, .int .i64 x.gen, .slice A n c] 97)).alloc (.cells #[.int .i64 d] 3)) := hal.alloc hal.size _
  have hrow : ((w.alloc (.cells #[.int .i64 x.id, .int .i64 x.len, .int .i64 x.gen, .slice A n c] 97)).alloc (.cells #[.int .i64 d] 3)).heap[w.heap.size]? = some (.cells #[.int .i64 x.id, .int .i64 x.len, .int .i64 x.gen, .slice A n c] 97 (0, 0)) := (Below.heap_alloc _ _ _ (by simp)).trans (heap_alloc_new w _)
  have hrow1 : ((w.alloc (.cells #[.int .i64 x.id, .int .i64 x.len, .int .i64 x.gen, .slice A n c] 97)).alloc (.cells #[.int .i64 d] 3)).heap[w.heap.size + 1]? = some (.cells #[.int .i64 d] 3 (0, 0)) := by
    have := heap_alloc_new (w.alloc (.cells #[.int .i64 x.id, .int .i64 x.len, .int .i64 x.gen, .slice A n c] 97)) (.cells #[.int .i64 d] 3)
    rw [World.size_alloc] at this; exact this
  have hz : w.heap.size + 1 < ((w.alloc (.cells #[.int .i64 x.id, .int .i64 x.len, .int .i64 x.gen, .slice A n c] 97)).alloc (.cells #[.int .i64 d] 3)).heap.size := by simp
  have h' := h.all hal2
  go_enter Try.func92, Try.ntmps92
  go_upto_region 1 with (fail)
  generalize (w.alloc (.cells #[.int .i64 x.id, .int .i64 x.len, .int .i64 x.gen, .slice A n c] 97)).alloc (.cells #[.int .i64 d] 3) = W0 at *
  have z3 := (cell_of_row _ _ 3 _ _ _ hrow).trans (show _ = some (Value.slice A n c) from rfl)
  have zd := (cell_of_row _ _ 0 _ _ _ hrow1).trans (show _ = some (Value.int .i64 d) from rfl)
  have HQ := Lib.hid (IndexFunc_on (a := ⟨w.heap.size + 1, 0, none⟩) h' (sameDisk d) (fun W y hW => on1_c rfl (Nat.lt_of_lt_of_le hz hW.size) ((hW.cell (p := ⟨w.heap.size + 1, 0, none⟩) hz).trans zd)))
  have HB := Lib.hid hal2
  clear h' hrow hrow1 hal hal2
  go_wp2_with fail
  refine HQ.out.mono ?_
  rintro e w1 ⟨rfl, hb⟩
  have HB1 := Lib.hid (HB.out.trans (hb.mono HB.out.size))
  clear hb HQ z3 zd
  go_wp2
  go_ret
  exact ⟨rfl, HB1.out⟩
set_option maxHeartbeats 1000000 in
theorem refOn_c {tg : Bool} {T : TypeId} {S : Nat → Prop} {w : World} {A : Option Addr} {n c : Nat} {x : Stripe} {d : Int} (h : Sl tg T slotE w S A n c x.place) :
    Calls Try.prog 93 #[.agg #[.int .i64 x.id, .int .i64 x.len, .int .i64 x.gen, .slice A n c], .int .i64 d] w (RetV (.int .i64 (onX x.place d)) w) := by
  have HL := Lib.hid h.len
  have hcap : n ≤ 9223372036854775807 := Nat.le_trans h.le h.cap
  have hal : Below w.heap.size w (w.alloc (.cells #[.int .i64 x.id, .int .i64 x.len, .int .i64 x.gen, .slice A n c] 97)) := (Below.refl _ _).alloc (Nat.le_refl _) _
  have hrow := heap_alloc_new w (.cells #[.int .i64 x.id, .int .i64 x.len, .int .i64 x.gen, .slice A n c] 97)
  have h' := h.all hal
  go_enter Try.func93, Try.ntmps93
  go_upto_region 1 with (fail)
  generalize (w.alloc (.cells #[.int .i64 x.id, .int .i64 x.len, .int .i64 x.gen, .slice A n c] 97)) = W0 at *
  have z3 := (cell_of_row _ _ 3 _ _ _ hrow).trans (show _ = some (Value.slice A n c) from rfl)
  have HB := Lib.hid hal
  clear hrow hal
  go_wp2_with fail
  go_loopw [5] (fun i wr => ∃ k : Nat, k ≤ n ∧ i = .int .i64 k ∧ wr = W0 ∧ Hid (∀ j, j < k → sameDisk d (x.place.getD j default) = false)) (fun i _ => n - (intOf i).toNat)
  case atStart => exact ⟨0, Nat.zero_le _, rfl, by trivial, Lib.hid (fun j hj => by omega)⟩
  case round =>
    obtain ⟨k, hk, rfl, rfl, he⟩ := hrel
    by_cases hlt : k < n
    · obtain ⟨b, off, rfl, _, hbl, g1, g2, hc0, hc1, _⟩ := h'.slot_at hlt
      generalize hp : x.place.getD k default = p at *
      have HP := Lib.hid hp; clear hp
      by_cases hd : p.disk = d
      · have HF : Hid (onX x.place d = k) := Lib.hid (idxOf_some (d := default) (by have := HL.out; omega) (by rw [HP.out]; simp [sameDisk, hd]) he.out)
        subst hd
        go_wp2
        go_ret
        exact ⟨by rw [HF.out]; rfl, HB.out⟩
      · have HF : Hid (∀ j, j < k + 1 → sameDisk d (x.place.getD j default) = false) := Lib.hid (fun j hj => by
          rcases Nat.lt_or_ge j k with h | h
          · exact he.out j h
          · obtain rfl : j = k := by omega
            rw [HP.out]; simp [sameDisk, hd])
        go_wp2
        go_roundw
        case rel => exact ⟨k + 1, by omega, by go_num, by trivial, HF⟩
        case measure => simp [intOf]; omega
    · have HF : Hid (onX x.place d = -1) := Lib.hid (idxOf_none (d := default) (fun j hj => he.out j (by have := HL.out; omega)))
      go_wp2
      go_ret
      exact ⟨by rw [HF.out]; rfl, HB.out⟩

def fullX (x : SlotsD) (k : Nat) : Int := if (edgesN x k).2.2 = true then ((edgesN x k).1 : Int) else -1
def emptyX (x : SlotsD) (k : Nat) : Int := if (edgesN x k).2.2 = true then ((edgesN x k).2.1 : Int) else -1
set_option maxRecDepth 100000 in
set_option maxHeartbeats 8000000 in
theorem refEdges_c {tg : Bool} {S : Nat → Prop} {w : World} {A0 A1 : Option Addr} {n0 c0 n1 c1 : Nat} {x : SlotsD} (hx : SlotsOk x)
    (h0 : Sl tg 4 boolE w S A0 n0 c0 x.live) (h1 : Sl tg 52 (slE tg 3 intE) w S A1 n1 c1 x.free) :
    Calls Try.prog 89 #[.agg #[.slice A0 n0 c0, .slice A1 n1 c1]] w (RetV (.tuple #[.int .i64 (fullX x x.live.length), .int .i64 (emptyX x x.live.length)]) w) := by
  have HL0 := Lib.hid h0.len
  have HL1 := Lib.hid h1.len
  rw [HL0.out]
  have hn10 : n1 = n0 := by have := hx.same; have := HL0.out; have := HL1.out; omega
  subst hn10
  have hn : n1 ≤ 12 := by have := hx.most; have := HL0.out; omega
  clear hx
  have hal : Below w.heap.size w (w.alloc (.cells #[.slice A0 n1 c0, .slice A1 n1 c1] 62)) := (by repeat' (first | (with_reducible exact Below.refl _ _) | (with_reducible refine Below.alloc ?_ ?_ _) | (with_reducible refine Below.drew ?_) | (with_reducible refine below_drewN ?_ _) | (with_reducible refine Below.setCell ?_ ?_ _) | (refine via ?_ (by with_reducible assumption) ?_) | (refine via ?_ (below_ext _ _) ?_) | go_size))
  have H0 := Lib.hid (h0.all hal)
  have H1 := Lib.hid (h1.all hal)
  have hrow := heap_alloc_new w (.cells #[.slice A0 n1 c0, .slice A1 n1 c1] 62)
  have hz : w.heap.size < (w.alloc (.cells #[.slice A0 n1 c0, .slice A1 n1 c1] 62)).heap.size := by simp
  clear h0 h1
  go_enter Try.func89, Try.ntmps89
  go_upto_region 1 with (fail)
  generalize w.alloc (.cells #[.slice A0 n1 c0, .slice A1 n1 c1] 62) = W0 at *
  have ROW := Lib.hid (fun V (hV : Below W0.heap.size W0 V) => (show V.cell? ⟨w.heap.size, 0, none⟩ = some (.slice A0 n1 c0) ∧ V.cell? ⟨w.heap.size, 1, none⟩ = some (.slice A1 n1 c1) from by
    have r := (hV.block _ hz).trans hrow
    exact ⟨cell_of_row V _ 0 _ _ _ r, cell_of_row V _ 1 _ _ _ r⟩))
  have HALL := Lib.hid (fun W (hW : Below W0.heap.size W0 W) => hal.trans (hW.mono (Nat.le_of_lt hz)))
  clear hrow hal
  go_wp2_with fail
  go_loopw [6, 4, 5] (fun i a b wr => ∃ k : Nat, k ≤ n1 ∧ i = .int .i64 k ∧ a = .int .i64 (fullX x k) ∧ b = .int .i64 (emptyX x k) ∧ Hid (Below W0.heap.size W0 wr)) (fun i _ _ _ => n1 - (intOf i).toNat)
  case atStart => exact ⟨0, Nat.zero_le _, rfl, rfl, rfl, Lib.hid (Below.refl _ _)⟩
  case round =>
    obtain ⟨k, hk, rfl, rfl, rfl, HB⟩ := hrel
    obtain ⟨y0, y1⟩ := ROW.out wr HB.out
    by_cases hlt : k < n1
    · obtain ⟨b0, o0, rfl, _, hbl0, hv, _⟩ := (H0.out.all HB.out).bool_at hlt
      have HSUC := Lib.hid (edgesN_succ x k)
      have HLT := Lib.hid (edgesN_lt x k)
      unfold fullX emptyX
      generalize hE : edgesN x k = E at *
      obtain ⟨f, e, o⟩ := E
      clear hE
      cases hlv : x.live.getD k false with
      | false =>
        rw [hlv] at hv
        have HF : Hid (edgesN x (k + 1) = (f, e, o)) := Lib.hid (by rw [HSUC.out]; unfold edgeStep; rw [hlv, if_neg (by simp)])
        clear hlv HSUC HLT
        cases o with
        | false =>
          simp only [Bool.false_eq_true, if_false]
          go_wp2
          exact ⟨⟨k + 1, by omega, by go_num, by rw [HF.out]; rfl, by rw [HF.out]; rfl, HB⟩, by simp [intOf]; omega⟩
        | true =>
          simp only [if_true]
          go_wp2
          exact ⟨⟨k + 1, by omega, by go_num, by rw [HF.out]; rfl, by rw [HF.out]; rfl, HB⟩, by simp [intOf]; omega⟩
      | true =>
        rw [hlv] at hv
        have hstep : edgesN x (k + 1) = (if o = true ∧ ¬ lenF x k < lenF x f then f else k, if o = true ∧ ¬ lenF x e < lenF x k then e else k, true) := by rw [HSUC.out]; unfold edgeStep; rw [if_pos hlv]
        clear hlv HSUC
        cases o with
        | false =>
          have HF : Hid (edgesN x (k + 1) = (k, k, true)) := Lib.hid (by rw [hstep, if_neg (by simp), if_neg (by simp)])
          clear hstep HLT
          simp only [Bool.false_eq_true, if_false]
          go_wp2_with fail
          refine region_free (by kernel_rfl) (by kernel_rfl) 58 rfl [20, 21, 22, 23, 24, 25, 26, 27, 28, 29, 30, 31, 32, 33, 34, 35, 36] [] []
            [(20, [], fun _ => .int .i64 (-1)), (21, [], fun _ => .bool true), (22, [], fun _ => .bool true), (23, [], fun _ => undef), (24, [], fun _ => undef), (25, [], fun _ => undef), (26, [], fun _ => undef), (27, [], fun _ => undef), (28, [], fun _ => undef), (29, [], fun _ => undef), (30, [], fun _ => undef), (31, [], fun _ => undef), (32, [], fun _ => undef), (33, [], fun _ => undef), (34, [], fun _ => undef), (35, [], fun _ => undef), (36, [], fun _ => .bool true)]
            [] [] [[], [20], [21], [22], [23, 22], [22], [24, 25, 22], [26, 22], [27, 22], [22], [29, 22], [22], [30, 31, 22], [32, 22], [33, 22], [28, 34, 22], [22, 35]] (WdB wr (fun _ _ _ => True)) (by kernel_rfl) .init ⟨?_, ?_, ?_, ?_, ?_, ?_, ?_, ?_, ?_, ?_, ?_, ?_, ?_, ?_, ?_, ?_, ?_, trivial⟩ ?_
          · (refine OpH.rd rfl rfl (fun ρ us w6 ho ht hc hl hsrc hW => ?_); have e4 := (ho 4 rfl).trans (show _ = (.int .i64 (-1) : Value) from rfl); clear ht ho; simp only [execOp, e4]; go_simp; try rfl)
          · (refine OpH.rd rfl rfl (fun ρ us w6 ho ht hc hl hsrc hW => ?_); have e20 := (ht 20 (by decide)).trans (show _ = (.int .i64 (-1) : Value) from rfl); clear ht ho; simp only [execOp, e20]; go_simp; try rfl)
          · (refine OpH.rd rfl rfl (fun ρ us w6 ho ht hc hl hsrc hW => ?_); have e21 := (ht 21 (by decide)).trans (show _ = (.bool true : Value) from rfl); clear ht ho; simp only [execOp, e21]; go_simp; try rfl)
          · (exact OpH.rdn rfl 2 22 false rfl rfl (by decide) (fun _ _ _ => rfl) (fun _ => rfl))
          · (exact OpH.rdn rfl 2 22 false rfl rfl (by decide) (fun _ _ _ => rfl) (fun _ => rfl))
          · (exact OpH.rdn rfl 2 22 false rfl rfl (by decide) (fun _ _ _ => rfl) (fun _ => rfl))
          · (exact OpH.rdn rfl 2 22 false rfl rfl (by decide) (fun _ _ _ => rfl) (fun _ => rfl))
          · (exact OpH.rdn rfl 2 22 false rfl rfl (by decide) (fun _ _ _ => rfl) (fun _ => rfl))
          · (exact OpH.rdn rfl 2 22 false rfl rfl (by decide) (fun _ _ _ => rfl) (fun _ => rfl))
          · (exact OpH.rdn rfl 2 22 false rfl rfl (by decide) (fun _ _ _ => rfl) (fun _ => rfl))
          · (exact OpH.rdn rfl 2 22 false rfl rfl (by decide) (fun _ _ _ => rfl) (fun _ => rfl))
          · (exact OpH.rdn rfl 2 22 false rfl rfl (by decide) (fun _ _ _ => rfl) (fun _ => rfl))
          · (exact OpH.rdn rfl 2 22 false rfl rfl (by decide) (fun _ _ _ => rfl) (fun _ => rfl))
          · (exact OpH.rdn rfl 2 22 false rfl rfl (by decide) (fun _ _ _ => rfl) (fun _ => rfl))
          · (exact OpH.rdn rfl 2 22 false rfl rfl (by decide) (fun _ _ _ => rfl) (fun _ => rfl))
          · (exact OpH.rdn rfl 2 22 false rfl rfl (by decide) (fun _ _ _ => rfl) (fun _ => rfl))
          · (refine OpH.rd rfl rfl (fun ρ us w6 ho ht hc hl hsrc hW => ?_); have e22 := (ht 22 (by decide)).trans (show _ = (.bool true : Value) from rfl); have e35 := (ht 35 (by decide)).trans (show _ = (undef : Value) from rfl); clear ht ho; simp only [execOp, e22, e35]; go_simp; try rfl)
          · intro us wa hmem hW
            simp only [putAll, List.map_cons, List.map_nil, List.foldl_cons, List.foldl_nil, Act.put, List.setIfInBounds_toArray, List.set_cons_succ, List.set_cons_zero]
            generalize hsv : slotAt _ _ us = sv
            have hq : sv 36 = .bool true := by rw [← hsv]; rfl
            rw [hq]
            have HB := Lib.hid (HB.out.trans (hW.1.mono HB.out.size))
            clear hsv hq hmem hW
            go_wp2_with fail
            refine region_free (by kernel_rfl) (by kernel_rfl) 58 rfl [38, 39, 40, 41, 42, 43, 44, 45, 46, 47, 48, 49, 50, 51, 52, 53, 54] [] []
              [(38, [], fun _ => .int .i64 (-1)), (39, [], fun _ => .bool true), (40, [], fun _ => .bool true), (41, [], fun _ => undef), (42, [], fun _ => undef), (43, [], fun _ => undef), (44, [], fun _ => undef), (45, [], fun _ => undef), (46, [], fun _ => undef), (47, [], fun _ => undef), (48, [], fun _ => undef), (49, [], fun _ => undef), (50, [], fun _ => undef), (51, [], fun _ => undef), (52, [], fun _ => undef), (53, [], fun _ => undef), (54, [], fun _ => .bool true)]
              [] [] [[], [38], [39], [40], [41, 40], [40], [42, 43, 40], [44, 40], [45, 40], [40], [47, 40], [40], [48, 49, 40], [50, 40], [51, 40], [46, 52, 40], [40, 53]] (WdB wa (fun _ _ _ => True)) (by kernel_rfl) .init ⟨?_, ?_, ?_, ?_, ?_, ?_, ?_, ?_, ?_, ?_, ?_, ?_, ?_, ?_, ?_, ?_, ?_, trivial⟩ ?_
            · (refine OpH.rd rfl rfl (fun ρ us w6 ho ht hc hl hsrc hW => ?_); have e5 := (ho 5 rfl).trans (show _ = (.int .i64 (-1) : Value) from rfl); clear ht ho; simp only [execOp, e5]; go_simp; try rfl)
            · (refine OpH.rd rfl rfl (fun ρ us w6 ho ht hc hl hsrc hW => ?_); have e38 := (ht 38 (by decide)).trans (show _ = (.int .i64 (-1) : Value) from rfl); clear ht ho; simp only [execOp, e38]; go_simp; try rfl)
            · (refine OpH.rd rfl rfl (fun ρ us w6 ho ht hc hl hsrc hW => ?_); have e39 := (ht 39 (by decide)).trans (show _ = (.bool true : Value) from rfl); clear ht ho; simp only [execOp, e39]; go_simp; try rfl)
            · (exact OpH.rdn rfl 2 40 false rfl rfl (by decide) (fun _ _ _ => rfl) (fun _ => rfl))
            · (exact OpH.rdn rfl 2 40 false rfl rfl (by decide) (fun _ _ _ => rfl) (fun _ => rfl))
            · (exact OpH.rdn rfl 2 40 false rfl rfl (by decide) (fun _ _ _ => rfl) (fun _ => rfl))
            · (exact OpH.rdn rfl 2 40 false rfl rfl (by decide) (fun _ _ _ => rfl) (fun _ => rfl))
            · (exact OpH.rdn rfl 2 40 false rfl rfl (by decide) (fun _ _ _ => rfl) (fun _ => rfl))
            · (exact OpH.rdn rfl 2 40 false rfl rfl (by decide) (fun _ _ _ => rfl) (fun _ => rfl))
            · (exact OpH.rdn rfl 2 40 false rfl rfl (by decide) (fun _ _ _ => rfl) (fun _ => rfl))
            · (exact OpH.rdn rfl 2 40 false rfl rfl (by decide) (fun _ _ _ => rfl) (fun _ => rfl))
            · (exact OpH.rdn rfl 2 40 false rfl rfl (by decide) (fun _ _ _ => rfl) (fun _ => rfl))
            · (exact OpH.rdn rfl 2 40 false rfl rfl (by decide) (fun _ _ _ => rfl) (fun _ => rfl))
            · (exact OpH.rdn rfl 2 40 false rfl rfl (by decide) (fun _ _ _ => rfl) (fun _ => rfl))
            · (exact OpH.rdn rfl 2 40 false rfl rfl (by decide) (fun _ _ _ => rfl) (fun _ => rfl))
            · (exact OpH.rdn rfl 2 40 false rfl rfl (by decide) (fun _ _ _ => rfl) (fun _ => rfl))
            · (refine OpH.rd rfl rfl (fun ρ us w6 ho ht hc hl hsrc hW => ?_); have e40 := (ht 40 (by decide)).trans (show _ = (.bool true : Value) from rfl); have e53 := (ht 53 (by decide)).trans (show _ = (undef : Value) from rfl); clear ht ho; simp only [execOp, e40, e53]; go_simp; try rfl)
            · intro us wb hmem hW
              simp only [putAll, List.map_cons, List.map_nil, List.foldl_cons, List.foldl_nil, Act.put, List.setIfInBounds_toArray, List.set_cons_succ, List.set_cons_zero]
              generalize hsv : slotAt _ _ us = sv
              have hq : sv 54 = .bool true := by rw [← hsv]; rfl
              rw [hq]
              have HB := Lib.hid (HB.out.trans (hW.1.mono HB.out.size))
              clear hsv hq hmem hW
              go_wp2
              exact ⟨⟨k + 1, by omega, by go_num, by rw [HF.out]; rfl, by rw [HF.out]; rfl, HB⟩, by simp [intOf]; omega⟩
        | true =>
          obtain ⟨hf, he⟩ := HLT.out rfl
          have hf1 : f < n1 := Nat.lt_trans hf hlt
          have he1 : e < n1 := Nat.lt_trans he hlt
          simp only [if_true]
          obtain ⟨b1, o1, Ak, nk, ck, rfl, hS1, hbl1, hk1, qk, _⟩ := H1.out.sl_at hlt
          obtain ⟨b', o', Af, nf, cf, e', _, _, hk2, qf, _⟩ := H1.out.sl_at (show f < n1 by omega)
          injection e' with e'; injection e' with e1 e2; subst e1 e2
          obtain ⟨b', o', Ae, ne, ce, e', _, _, hk3, qe, _⟩ := H1.out.sl_at (show e < n1 by omega)
          injection e' with e'; injection e' with e1 e2; subst e1 e2
          have hnk : lenF x k = nk := hk1.len
          have hnf : lenF x f = nf := hk2.len
          have hne : lenF x e = ne := hk3.len
          rw [hnk, hnf, hne] at hstep
          have CEL := Lib.hid (fun w6 (hb : Below W0.heap.size W0 w6) => And.intro (ROW.out w6 hb).2 (And.intro ((hb.cell (p := ⟨b1, o1 + k, none⟩) hbl1).trans qk) (And.intro ((hb.cell (p := ⟨b1, o1 + f, none⟩) hbl1).trans qf) ((hb.cell (p := ⟨b1, o1 + e, none⟩) hbl1).trans qe))))
          clear hk1 hk2 hk3 hnk hnf hne qk qf qe HLT
          by_cases hA : nk < nf
          · by_cases hB : ne < nk
            · have HF : Hid (edgesN x (k + 1) = (k, k, true)) := Lib.hid (by rw [hstep, if_neg (fun h => h.2 hA), if_neg (fun h => h.2 hB)])
              clear hstep
              go_wp2_with fail
              refine region_free (by kernel_rfl) (by kernel_rfl) 58 rfl [20, 21, 22, 23, 24, 25, 26, 27, 28, 29, 30, 31, 32, 33, 34, 35, 36] [] []
                [(20, [], fun _ => .int .i64 (f : Int)), (21, [], fun _ => .bool false), (22, [], fun _ => .bool false), (23, [], fun _ => (.pointer (some ⟨w.heap.size, 1, none⟩))), (24, [], fun _ => (.slice (some ⟨b1, o1, none⟩) n1 c1)), (25, [], fun _ => .int .i64 (k : Int)), (26, [], fun _ => .pointer (some ⟨b1, o1 + k, none⟩)), (27, [], fun _ => .slice Ak nk ck), (28, [], fun _ => .int .i64 (nk : Int)), (29, [], fun _ => (.pointer (some ⟨w.heap.size, 1, none⟩))), (30, [], fun _ => (.slice (some ⟨b1, o1, none⟩) n1 c1)), (31, [], fun _ => .int .i64 (f : Int)), (32, [], fun _ => .pointer (some ⟨b1, o1 + f, none⟩)), (33, [], fun _ => .slice Af nf cf), (34, [], fun _ => .int .i64 (nf : Int)), (35, [], fun _ => .bool true), (36, [], fun _ => .bool true)]
                [] [] [[], [20], [21], [22], [23, 22], [22], [24, 25, 22], [26, 22], [27, 22], [22], [29, 22], [22], [30, 31, 22], [32, 22], [33, 22], [28, 34, 22], [22, 35]] (WdB wr (fun _ _ _ => True)) (by kernel_rfl) .init ⟨?_, ?_, ?_, ?_, ?_, ?_, ?_, ?_, ?_, ?_, ?_, ?_, ?_, ?_, ?_, ?_, ?_, trivial⟩ ?_
              · (refine OpH.rd rfl rfl (fun ρ us w6 ho ht hc hl hsrc hW => ?_); have e4 := (ho 4 rfl).trans (show _ = (.int .i64 (f : Int) : Value) from rfl); clear ht ho; simp only [execOp, e4]; go_simp; try rfl)
              · (refine OpH.rd rfl rfl (fun ρ us w6 ho ht hc hl hsrc hW => ?_); have e20 := (ht 20 (by decide)).trans (show _ = (.int .i64 (f : Int) : Value) from rfl); clear ht ho; simp only [execOp, e20]; go_simp; first | rfl | exact congrArg Value.bool (decide_eq_true (by omega)) | exact congrArg Value.bool (decide_eq_false (by omega)) | (simp; done) | (simp; omega))
              · (refine OpH.rd rfl rfl (fun ρ us w6 ho ht hc hl hsrc hW => ?_); have e21 := (ht 21 (by decide)).trans (show _ = (.bool false : Value) from rfl); clear ht ho; simp only [execOp, e21]; go_simp; try rfl)
              · (refine OpH.rdg rfl 2 22 false rfl rfl (by decide) (fun _ _ _ => rfl) (fun ρ us w6 ho ht hc hl hsrc hW => ?_); have e1 := (ho 1 rfl).trans (show _ = ((.pointer (some ⟨w.heap.size, 0, none⟩)) : Value) from rfl); clear ht ho; simp only [execOp, e1]; go_simp; try rfl)
              · (refine OpH.rdg rfl 2 22 false rfl rfl (by decide) (fun _ _ _ => rfl) (fun ρ us w6 ho ht hc hl hsrc hW => ?_); have e23 := (ht 23 (by decide)).trans (show _ = ((.pointer (some ⟨w.heap.size, 1, none⟩)) : Value) from rfl); obtain ⟨y1, yk, yf, ye⟩ := CEL.out w6 (HB.out.trans (hW.1.mono HB.out.size)); clear ht ho; simp only [execOp, e23]; go_simp; try rfl)
              · (refine OpH.rdg rfl 2 22 false rfl rfl (by decide) (fun _ _ _ => rfl) (fun ρ us w6 ho ht hc hl hsrc hW => ?_); have e6 := (ho 6 rfl).trans (show _ = (.int .i64 (k : Int) : Value) from rfl); clear ht ho; simp only [execOp, e6]; go_simp; try rfl)
              · (refine OpH.rdg rfl 2 22 false rfl rfl (by decide) (fun _ _ _ => rfl) (fun ρ us w6 ho ht hc hl hsrc hW => ?_); have e24 := (ht 24 (by decide)).trans (show _ = ((.slice (some ⟨b1, o1, none⟩) n1 c1) : Value) from rfl); have e25 := (ht 25 (by decide)).trans (show _ = (.int .i64 (k : Int) : Value) from rfl); clear ht ho; simp only [execOp, e24, e25]; go_simp; try rfl)
              · (refine OpH.rdg rfl 2 22 false rfl rfl (by decide) (fun _ _ _ => rfl) (fun ρ us w6 ho ht hc hl hsrc hW => ?_); have e26 := (ht 26 (by decide)).trans (show _ = (.pointer (some ⟨b1, o1 + k, none⟩) : Value) from rfl); obtain ⟨y1, yk, yf, ye⟩ := CEL.out w6 (HB.out.trans (hW.1.mono HB.out.size)); clear ht ho; simp only [execOp, e26]; go_simp; try rfl)
              · (refine OpH.rdg rfl 2 22 false rfl rfl (by decide) (fun _ _ _ => rfl) (fun ρ us w6 ho ht hc hl hsrc hW => ?_); have e27 := (ht 27 (by decide)).trans (show _ = (.slice Ak nk ck : Value) from rfl); clear ht ho; simp only [execOp]; go_simp; try rfl)
              · (refine OpH.rdg rfl 2 22 false rfl rfl (by decide) (fun _ _ _ => rfl) (fun ρ us w6 ho ht hc hl hsrc hW => ?_); have e1 := (ho 1 rfl).trans (show _ = ((.pointer (some ⟨w.heap.size, 0, none⟩)) : Value) from rfl); clear ht ho; simp only [execOp, e1]; go_simp; try rfl)
              · (refine OpH.rdg rfl 2 22 false rfl rfl (by decide) (fun _ _ _ => rfl) (fun ρ us w6 ho ht hc hl hsrc hW => ?_); have e29 := (ht 29 (by decide)).trans (show _ = ((.pointer (some ⟨w.heap.size, 1, none⟩)) : Value) from rfl); obtain ⟨y1, yk, yf, ye⟩ := CEL.out w6 (HB.out.trans (hW.1.mono HB.out.size)); clear ht ho; simp only [execOp, e29]; go_simp; try rfl)
              · (refine OpH.rdg rfl 2 22 false rfl rfl (by decide) (fun _ _ _ => rfl) (fun ρ us w6 ho ht hc hl hsrc hW => ?_); have e4 := (ho 4 rfl).trans (show _ = (.int .i64 (f : Int) : Value) from rfl); clear ht ho; simp only [execOp, e4]; go_simp; try rfl)
              · (refine OpH.rdg rfl 2 22 false rfl rfl (by decide) (fun _ _ _ => rfl) (fun ρ us w6 ho ht hc hl hsrc hW => ?_); have e30 := (ht 30 (by decide)).trans (show _ = ((.slice (some ⟨b1, o1, none⟩) n1 c1) : Value) from rfl); have e31 := (ht 31 (by decide)).trans (show _ = (.int .i64 (f : Int) : Value) from rfl); clear ht ho; simp only [execOp, e30, e31]; go_simp; try rfl)
              · (refine OpH.rdg rfl 2 22 false rfl rfl (by decide) (fun _ _ _ => rfl) (fun ρ us w6 ho ht hc hl hsrc hW => ?_); have e32 := (ht 32 (by decide)).trans (show _ = (.pointer (some ⟨b1, o1 + f, none⟩) : Value) from rfl); obtain ⟨y1, yk, yf, ye⟩ := CEL.out w6 (HB.out.trans (hW.1.mono HB.out.size)); clear ht ho; simp only [execOp, e32]; go_simp; try rfl)
              · (refine OpH.rdg rfl 2 22 false rfl rfl (by decide) (fun _ _ _ => rfl) (fun ρ us w6 ho ht hc hl hsrc hW => ?_); have e33 := (ht 33 (by decide)).trans (show _ = (.slice Af nf cf : Value) from rfl); clear ht ho; simp only [execOp]; go_simp; try rfl)
              · (refine OpH.rdg rfl 2 22 false rfl rfl (by decide) (fun _ _ _ => rfl) (fun ρ us w6 ho ht hc hl hsrc hW => ?_); have e28 := (ht 28 (by decide)).trans (show _ = (.int .i64 (nk : Int) : Value) from rfl); have e34 := (ht 34 (by decide)).trans (show _ = (.int .i64 (nf : Int) : Value) from rfl); clear ht ho; simp only [execOp, e28, e34]; go_simp; first | rfl | exact congrArg Value.bool (decide_eq_true (by omega)) | exact congrArg Value.bool (decide_eq_false (by omega)) | (simp; done) | (simp; omega))
              · (refine OpH.rd rfl rfl (fun ρ us w6 ho ht hc hl hsrc hW => ?_); have e22 := (ht 22 (by decide)).trans (show _ = (.bool false : Value) from rfl); have e35 := (ht 35 (by decide)).trans (show _ = (.bool true : Value) from rfl); clear ht ho; simp only [execOp, e22, e35]; go_simp; try rfl)
              · intro us wa hmem hW
                simp only [putAll, List.map_cons, List.map_nil, List.foldl_cons, List.foldl_nil, Act.put, List.setIfInBounds_toArray, List.set_cons_succ, List.set_cons_zero]
                generalize hsv : slotAt _ _ us = sv
                have hq : sv 36 = .bool true := by rw [← hsv]; rfl
                rw [hq]
                have HB := Lib.hid (HB.out.trans (hW.1.mono HB.out.size))
                clear hsv hq hmem hW
                go_wp2_with fail
                refine region_free (by kernel_rfl) (by kernel_rfl) 58 rfl [38, 39, 40, 41, 42, 43, 44, 45, 46, 47, 48, 49, 50, 51, 52, 53, 54] [] []
                  [(38, [], fun _ => .int .i64 (e : Int)), (39, [], fun _ => .bool false), (40, [], fun _ => .bool false), (41, [], fun _ => (.pointer (some ⟨w.heap.size, 1, none⟩))), (42, [], fun _ => (.slice (some ⟨b1, o1, none⟩) n1 c1)), (43, [], fun _ => .int .i64 (k : Int)), (44, [], fun _ => .pointer (some ⟨b1, o1 + k, none⟩)), (45, [], fun _ => .slice Ak nk ck), (46, [], fun _ => .int .i64 (nk : Int)), (47, [], fun _ => (.pointer (some ⟨w.heap.size, 1, none⟩))), (48, [], fun _ => (.slice (some ⟨b1, o1, none⟩) n1 c1)), (49, [], fun _ => .int .i64 (e : Int)), (50, [], fun _ => .pointer (some ⟨b1, o1 + e, none⟩)), (51, [], fun _ => .slice Ae ne ce), (52, [], fun _ => .int .i64 (ne : Int)), (53, [], fun _ => .bool true), (54, [], fun _ => .bool true)]
                  [] [] [[], [38], [39], [40], [41, 40], [40], [42, 43, 40], [44, 40], [45, 40], [40], [47, 40], [40], [48, 49, 40], [50, 40], [51, 40], [46, 52, 40], [40, 53]] (WdB wa (fun _ _ _ => True)) (by kernel_rfl) .init ⟨?_, ?_, ?_, ?_, ?_, ?_, ?_, ?_, ?_, ?_, ?_, ?_, ?_, ?_, ?_, ?_, ?_, trivial⟩ ?_
                · (refine OpH.rd rfl rfl (fun ρ us w6 ho ht hc hl hsrc hW => ?_); have e5 := (ho 5 rfl).trans (show _ = (.int .i64 (e : Int) : Value) from rfl); clear ht ho; simp only [execOp, e5]; go_simp; try rfl)
                · (refine OpH.rd rfl rfl (fun ρ us w6 ho ht hc hl hsrc hW => ?_); have e38 := (ht 38 (by decide)).trans (show _ = (.int .i64 (e : Int) : Value) from rfl); clear ht ho; simp only [execOp, e38]; go_simp; first | rfl | exact congrArg Value.bool (decide_eq_true (by omega)) | exact congrArg Value.bool (decide_eq_false (by omega)) | (simp; done) | (simp; omega))
                · (refine OpH.rd rfl rfl (fun ρ us w6 ho ht hc hl hsrc hW => ?_); have e39 := (ht 39 (by decide)).trans (show _ = (.bool false : Value) from rfl); clear ht ho; simp only [execOp, e39]; go_simp; try rfl)
                · (refine OpH.rdg rfl 2 40 false rfl rfl (by decide) (fun _ _ _ => rfl) (fun ρ us w6 ho ht hc hl hsrc hW => ?_); have e1 := (ho 1 rfl).trans (show _ = ((.pointer (some ⟨w.heap.size, 0, none⟩)) : Value) from rfl); clear ht ho; simp only [execOp, e1]; go_simp; try rfl)
                · (refine OpH.rdg rfl 2 40 false rfl rfl (by decide) (fun _ _ _ => rfl) (fun ρ us w6 ho ht hc hl hsrc hW => ?_); have e41 := (ht 41 (by decide)).trans (show _ = ((.pointer (some ⟨w.heap.size, 1, none⟩)) : Value) from rfl); obtain ⟨y1, yk, yf, ye⟩ := CEL.out w6 (HB.out.trans (hW.1.mono HB.out.size)); clear ht ho; simp only [execOp, e41]; go_simp; try rfl)
                · (refine OpH.rdg rfl 2 40 false rfl rfl (by decide) (fun _ _ _ => rfl) (fun ρ us w6 ho ht hc hl hsrc hW => ?_); have e6 := (ho 6 rfl).trans (show _ = (.int .i64 (k : Int) : Value) from rfl); clear ht ho; simp only [execOp, e6]; go_simp; try rfl)
                · (refine OpH.rdg rfl 2 40 false rfl rfl (by decide) (fun _ _ _ => rfl) (fun ρ us w6 ho ht hc hl hsrc hW => ?_); have e42 := (ht 42 (by decide)).trans (show _ = ((.slice (some ⟨b1, o1, none⟩) n1 c1) : Value) from rfl); have e43 := (ht 43 (by decide)).trans (show _ = (.int .i64 (k : Int) : Value) from rfl); clear ht ho; simp only [execOp, e42, e43]; go_simp; try rfl)
                · (refine OpH.rdg rfl 2 40 false rfl rfl (by decide) (fun _ _ _ => rfl) (fun ρ us w6 ho ht hc hl hsrc hW => ?_); have e44 := (ht 44 (by decide)).trans (show _ = (.pointer (some ⟨b1, o1 + k, none⟩) : Value) from rfl); obtain ⟨y1, yk, yf, ye⟩ := CEL.out w6 (HB.out.trans (hW.1.mono HB.out.size)); clear ht ho; simp only [execOp, e44]; go_simp; try rfl)
                · (refine OpH.rdg rfl 2 40 false rfl rfl (by decide) (fun _ _ _ => rfl) (fun ρ us w6 ho ht hc hl hsrc hW => ?_); have e45 := (ht 45 (by decide)).trans (show _ = (.slice Ak nk ck : Value) from rfl); clear ht ho; simp only [execOp]; go_simp; try rfl)
                · (refine OpH.rdg rfl 2 40 false rfl rfl (by decide) (fun _ _ _ => rfl) (fun ρ us w6 ho ht hc hl hsrc hW => ?_); have e1 := (ho 1 rfl).trans (show _ = ((.pointer (some ⟨w.heap.size, 0, none⟩)) : Value) from rfl); clear ht ho; simp only [execOp, e1]; go_simp; try rfl)
                · (refine OpH.rdg rfl 2 40 false rfl rfl (by decide) (fun _ _ _ => rfl) (fun ρ us w6 ho ht hc hl hsrc hW => ?_); have e47 := (ht 47 (by decide)).trans (show _ = ((.pointer (some ⟨w.heap.size, 1, none⟩)) : Value) from rfl); obtain ⟨y1, yk, yf, ye⟩ := CEL.out w6 (HB.out.trans (hW.1.mono HB.out.size)); clear ht ho; simp only [execOp, e47]; go_simp; try rfl)
                · (refine OpH.rdg rfl 2 40 false rfl rfl (by decide) (fun _ _ _ => rfl) (fun ρ us w6 ho ht hc hl hsrc hW => ?_); have e5 := (ho 5 rfl).trans (show _ = (.int .i64 (e : Int) : Value) from rfl); clear ht ho; simp only [execOp, e5]; go_simp; try rfl)
                · (refine OpH.rdg rfl 2 40 false rfl rfl (by decide) (fun _ _ _ => rfl) (fun ρ us w6 ho ht hc hl hsrc hW => ?_); have e48 := (ht 48 (by decide)).trans (show _ = ((.slice (some ⟨b1, o1, none⟩) n1 c1) : Value) from rfl); have e49 := (ht 49 (by decide)).trans (show _ = (.int .i64 (e : Int) : Value) from rfl); clear ht ho; simp only [execOp, e48, e49]; go_simp; try rfl)
                · (refine OpH.rdg rfl 2 40 false rfl rfl (by decide) (fun _ _ _ => rfl) (fun ρ us w6 ho ht hc hl hsrc hW => ?_); have e50 := (ht 50 (by decide)).trans (show _ = (.pointer (some ⟨b1, o1 + e, none⟩) : Value) from rfl); obtain ⟨y1, yk, yf, ye⟩ := CEL.out w6 (HB.out.trans (hW.1.mono HB.out.size)); clear ht ho; simp only [execOp, e50]; go_simp; try rfl)
                · (refine OpH.rdg rfl 2 40 false rfl rfl (by decide) (fun _ _ _ => rfl) (fun ρ us w6 ho ht hc hl hsrc hW => ?_); have e51 := (ht 51 (by decide)).trans (show _ = (.slice Ae ne ce : Value) from rfl); clear ht ho; simp only [execOp]; go_simp; try rfl)
                · (refine OpH.rdg rfl 2 40 false rfl rfl (by decide) (fun _ _ _ => rfl) (fun ρ us w6 ho ht hc hl hsrc hW => ?_); have e46 := (ht 46 (by decide)).trans (show _ = (.int .i64 (nk : Int) : Value) from rfl); have e52 := (ht 52 (by decide)).trans (show _ = (.int .i64 (ne : Int) : Value) from rfl); clear ht ho; simp only [execOp, e46, e52]; go_simp; first | rfl | exact congrArg Value.bool (decide_eq_true (by omega)) | exact congrArg Value.bool (decide_eq_false (by omega)) | (simp; done) | (simp; omega))
                · (refine OpH.rd rfl rfl (fun ρ us w6 ho ht hc hl hsrc hW => ?_); have e40 := (ht 40 (by decide)).trans (show _ = (.bool false : Value) from rfl); have e53 := (ht 53 (by decide)).trans (show _ = (.bool true : Value) from rfl); clear ht ho; simp only [execOp, e40, e53]; go_simp; try rfl)
                · intro us wb hmem hW
                  simp only [putAll, List.map_cons, List.map_nil, List.foldl_cons, List.foldl_nil, Act.put, List.setIfInBounds_toArray, List.set_cons_succ, List.set_cons_zero]
                  generalize hsv : slotAt _ _ us = sv
                  have hq : sv 54 = .bool true := by rw [← hsv]; rfl
                  rw [hq]
                  have HB := Lib.hid (HB.out.trans (hW.1.mono HB.out.size))
                  clear hsv hq hmem hW
                  go_wp2
                  exact ⟨⟨k + 1, by omega, by go_num, by rw [HF.out]; rfl, by rw [HF.out]; rfl, HB⟩, by simp [intOf]; omega⟩
            · have HF : Hid (edgesN x (k + 1) = (k, e, true)) := Lib.hid (by rw [hstep, if_neg (fun h => h.2 hA), if_pos ⟨rfl, hB⟩])
              clear hstep
              go_wp2_with fail
              refine region_free (by kernel_rfl) (by kernel_rfl) 58 rfl [20, 21, 22, 23, 24, 25, 26, 27, 28, 29, 30, 31, 32, 33, 34, 35, 36] [] []
                [(20, [], fun _ => .int .i64 (f : Int)), (21, [], fun _ => .bool false), (22, [], fun _ => .bool false), (23, [], fun _ => (.pointer (some ⟨w.heap.size, 1, none⟩))), (24, [], fun _ => (.slice (some ⟨b1, o1, none⟩) n1 c1)), (25, [], fun _ => .int .i64 (k : Int)), (26, [], fun _ => .pointer (some ⟨b1, o1 + k, none⟩)), (27, [], fun _ => .slice Ak nk ck), (28, [], fun _ => .int .i64 (nk : Int)), (29, [], fun _ => (.pointer (some ⟨w.heap.size, 1, none⟩))), (30, [], fun _ => (.slice (some ⟨b1, o1, none⟩) n1 c1)), (31, [], fun _ => .int .i64 (f : Int)), (32, [], fun _ => .pointer (some ⟨b1, o1 + f, none⟩)), (33, [], fun _ => .slice Af nf cf), (34, [], fun _ => .int .i64 (nf : Int)), (35, [], fun _ => .bool true), (36, [], fun _ => .bool true)]
                [] [] [[], [20], [21], [22], [23, 22], [22], [24, 25, 22], [26, 22], [27, 22], [22], [29, 22], [22], [30, 31, 22], [32, 22], [33, 22], [28, 34, 22], [22, 35]] (WdB wr (fun _ _ _ => True)) (by kernel_rfl) .init ⟨?_, ?_, ?_, ?_, ?_, ?_, ?_, ?_, ?_, ?_, ?_, ?_, ?_, ?_, ?_, ?_, ?_, trivial⟩ ?_
              · (refine OpH.rd rfl rfl (fun ρ us w6 ho ht hc hl hsrc hW => ?_); have e4 := (ho 4 rfl).trans (show _ = (.int .i64 (f : Int) : Value) from rfl); clear ht ho; simp only [execOp, e4]; go_simp; try rfl)
              · (refine OpH.rd rfl rfl (fun ρ us w6 ho ht hc hl hsrc hW => ?_); have e20 := (ht 20 (by decide)).trans (show _ = (.int .i64 (f : Int) : Value) from rfl); clear ht ho; simp only [execOp, e20]; go_simp; first | rfl | exact congrArg Value.bool (decide_eq_true (by omega)) | exact congrArg Value.bool (decide_eq_false (by omega)) | (simp; done) | (simp; omega))
              · (refine OpH.rd rfl rfl (fun ρ us w6 ho ht hc hl hsrc hW => ?_); have e21 := (ht 21 (by decide)).trans (show _ = (.bool false : Value) from rfl); clear ht ho; simp only [execOp, e21]; go_simp; try rfl)
              · (refine OpH.rdg rfl 2 22 false rfl rfl (by decide) (fun _ _ _ => rfl) (fun ρ us w6 ho ht hc hl hsrc hW => ?_); have e1 := (ho 1 rfl).trans (show _ = ((.pointer (some ⟨w.heap.size, 0, none⟩)) : Value) from rfl); clear ht ho; simp only [execOp, e1]; go_simp; try rfl)
              · (refine OpH.rdg rfl 2 22 false rfl rfl (by decide) (fun _ _ _ => rfl) (fun ρ us w6 ho ht hc hl hsrc hW => ?_); have e23 := (ht 23 (by decide)).trans (show _ = ((.pointer (some ⟨w.heap.size, 1, none⟩)) : Value) from rfl); obtain ⟨y1, yk, yf, ye⟩ := CEL.out w6 (HB.out.trans (hW.1.mono HB.out.size)); clear ht ho; simp only [execOp, e23]; go_simp; try rfl)
              · (refine OpH.rdg rfl 2 22 false rfl rfl (by decide) (fun _ _ _ => rfl) (fun ρ us w6 ho ht hc hl hsrc hW => ?_); have e6 := (ho 6 rfl).trans (show _ = (.int .i64 (k : Int) : Value) from rfl); clear ht ho; simp only [execOp, e6]; go_simp; try rfl)
              · (refine OpH.rdg rfl 2 22 false rfl rfl (by decide) (fun _ _ _ => rfl) (fun ρ us w6 ho ht hc hl hsrc hW => ?_); have e24 := (ht 24 (by decide)).trans (show _ = ((.slice (some ⟨b1, o1, none⟩) n1 c1) : Value) from rfl); have e25 := (ht 25 (by decide)).trans (show _ = (.int .i64 (k : Int) : Value) from rfl); clear ht ho; simp only [execOp, e24, e25]; go_simp; try rfl)
              · (refine OpH.rdg rfl 2 22 false rfl rfl (by decide) (fun _ _ _ => rfl) (fun ρ us w6 ho ht hc hl hsrc hW => ?_); have e26 := (ht 26 (by decide)).trans (show _ = (.pointer (some ⟨b1, o1 + k, none⟩) : Value) from rfl); obtain ⟨y1, yk, yf, ye⟩ := CEL.out w6 (HB.out.trans (hW.1.mono HB.out.size)); clear ht ho; simp only [execOp, e26]; go_simp; try rfl)
              · (refine OpH.rdg rfl 2 22 false rfl rfl (by decide) (fun _ _ _ => rfl) (fun ρ us w6 ho ht hc hl hsrc hW => ?_); have e27 := (ht 27 (by decide)).trans (show _ = (.slice Ak nk ck : Value) from rfl); clear ht ho; simp only [execOp]; go_simp; try rfl)
              · (refine OpH.rdg rfl 2 22 false rfl rfl (by decide) (fun _ _ _ => rfl) (fun ρ us w6 ho ht hc hl hsrc hW => ?_); have e1 := (ho 1 rfl).trans (show _ = ((.pointer (some ⟨w.heap.size, 0, none⟩)) : Value) from rfl); clear ht ho; simp only [execOp, e1]; go_simp; try rfl)
              · (refine OpH.rdg rfl 2 22 false rfl rfl (by decide) (fun _ _ _ => rfl) (fun ρ us w6 ho ht hc hl hsrc hW => ?_); have e29 := (ht 29 (by decide)).trans (show _ = ((.pointer (some ⟨w.heap.size, 1, none⟩)) : Value) from rfl); obtain ⟨y1, yk, yf, ye⟩ := CEL.out w6 (HB.out.trans (hW.1.mono HB.out.size)); clear ht ho; simp only [execOp, e29]; go_simp; try rfl)
              · (refine OpH.rdg rfl 2 22 false rfl rfl (by decide) (fun _ _ _ => rfl) (fun ρ us w6 ho ht hc hl hsrc hW => ?_); have e4 := (ho 4 rfl).trans (show _ = (.int .i64 (f : Int) : Value) from rfl); clear ht ho; simp only [execOp, e4]; go_simp; try rfl)
              · (refine OpH.rdg rfl 2 22 false rfl rfl (by decide) (fun _ _ _ => rfl) (fun ρ us w6 ho ht hc hl hsrc hW => ?_); have e30 := (ht 30 (by decide)).trans (show _ = ((.slice (some ⟨b1, o1, none⟩) n1 c1) : Value) from rfl); have e31 := (ht 31 (by decide)).trans (show _ = (.int .i64 (f : Int) : Value) from rfl); clear ht ho; simp only [execOp, e30, e31]; go_simp; try rfl)
              · (refine OpH.rdg rfl 2 22 false rfl rfl (by decide) (fun _ _ _ => rfl) (fun ρ us w6 ho ht hc hl hsrc hW => ?_); have e32 := (ht 32 (by decide)).trans (show _ = (.pointer (some ⟨b1, o1 + f, none⟩) : Value) from rfl); obtain ⟨y1, yk, yf, ye⟩ := CEL.out w6 (HB.out.trans (hW.1.mono HB.out.size)); clear ht ho; simp only [execOp, e32]; go_simp; try rfl)
              · (refine OpH.rdg rfl 2 22 false rfl rfl (by decide) (fun _ _ _ => rfl) (fun ρ us w6 ho ht hc hl hsrc hW => ?_); have e33 := (ht 33 (by decide)).trans (show _ = (.slice Af nf cf : Value) from rfl); clear ht ho; simp only [execOp]; go_simp; try rfl)
              · (refine OpH.rdg rfl 2 22 false rfl rfl (by decide) (fun _ _ _ => rfl) (fun ρ us w6 ho ht hc hl hsrc hW => ?_); have e28 := (ht 28 (by decide)).trans (show _ = (.int .i64 (nk : Int) : Value) from rfl); have e34 := (ht 34 (by decide)).trans (show _ = (.int .i64 (nf : Int) : Value) from rfl); clear ht ho; simp only [execOp, e28, e34]; go_simp; first | rfl | exact congrArg Value.bool (decide_eq_true (by omega)) | exact congrArg Value.bool (decide_eq_false (by omega)) | (simp; done) | (simp; omega))
              · (refine OpH.rd rfl rfl (fun ρ us w6 ho ht hc hl hsrc hW => ?_); have e22 := (ht 22 (by decide)).trans (show _ = (.bool false : Value) from rfl); have e35 := (ht 35 (by decide)).trans (show _ = (.bool true : Value) from rfl); clear ht ho; simp only [execOp, e22, e35]; go_simp; try rfl)
              · intro us wa hmem hW
                simp only [putAll, List.map_cons, List.map_nil, List.foldl_cons, List.foldl_nil, Act.put, List.setIfInBounds_toArray, List.set_cons_succ, List.set_cons_zero]
                generalize hsv : slotAt _ _ us = sv
                have hq : sv 36 = .bool true := by rw [← hsv]; rfl
                rw [hq]
                have HB := Lib.hid (HB.out.trans (hW.1.mono HB.out.size))
                clear hsv hq hmem hW
                go_wp2_with fail
                refine region_free (by kernel_rfl) (by kernel_rfl) 58 rfl [38, 39, 40, 41, 42, 43, 44, 45, 46, 47, 48, 49, 50, 51, 52, 53, 54] [] []
                  [(38, [], fun _ => .int .i64 (e : Int)), (39, [], fun _ => .bool false), (40, [], fun _ => .bool false), (41, [], fun _ => (.pointer (some ⟨w.heap.size, 1, none⟩))), (42, [], fun _ => (.slice (some ⟨b1, o1, none⟩) n1 c1)), (43, [], fun _ => .int .i64 (k : Int)), (44, [], fun _ => .pointer (some ⟨b1, o1 + k, none⟩)), (45, [], fun _ => .slice Ak nk ck), (46, [], fun _ => .int .i64 (nk : Int)), (47, [], fun _ => (.pointer (some ⟨w.heap.size, 1, none⟩))), (48, [], fun _ => (.slice (some ⟨b1, o1, none⟩) n1 c1)), (49, [], fun _ => .int .i64 (e : Int)), (50, [], fun _ => .pointer (some ⟨b1, o1 + e, none⟩)), (51, [], fun _ => .slice Ae ne ce), (52, [], fun _ => .int .i64 (ne : Int)), (53, [], fun _ => .bool false), (54, [], fun _ => .bool false)]
                  [] [] [[], [38], [39], [40], [41, 40], [40], [42, 43, 40], [44, 40], [45, 40], [40], [47, 40], [40], [48, 49, 40], [50, 40], [51, 40], [46, 52, 40], [40, 53]] (WdB wa (fun _ _ _ => True)) (by kernel_rfl) .init ⟨?_, ?_, ?_, ?_, ?_, ?_, ?_, ?_, ?_, ?_, ?_, ?_, ?_, ?_, ?_, ?_, ?_, trivial⟩ ?_
                · (refine OpH.rd rfl rfl (fun ρ us w6 ho ht hc hl hsrc hW => ?_); have e5 := (ho 5 rfl).trans (show _ = (.int .i64 (e : Int) : Value) from rfl); clear ht ho; simp only [execOp, e5]; go_simp; try rfl)
                · (refine OpH.rd rfl rfl (fun ρ us w6 ho ht hc hl hsrc hW => ?_); have e38 := (ht 38 (by decide)).trans (show _ = (.int .i64 (e : Int) : Value) from rfl); clear ht ho; simp only [execOp, e38]; go_simp; first | rfl | exact congrArg Value.bool (decide_eq_true (by omega)) | exact congrArg Value.bool (decide_eq_false (by omega)) | (simp; done) | (simp; omega))
                · (refine OpH.rd rfl rfl (fun ρ us w6 ho ht hc hl hsrc hW => ?_); have e39 := (ht 39 (by decide)).trans (show _ = (.bool false : Value) from rfl); clear ht ho; simp only [execOp, e39]; go_simp; try rfl)
                · (refine OpH.rdg rfl 2 40 false rfl rfl (by decide) (fun _ _ _ => rfl) (fun ρ us w6 ho ht hc hl hsrc hW => ?_); have e1 := (ho 1 rfl).trans (show _ = ((.pointer (some ⟨w.heap.size, 0, none⟩)) : Value) from rfl); clear ht ho; simp only [execOp, e1]; go_simp; try rfl)
                · (refine OpH.rdg rfl 2 40 false rfl rfl (by decide) (fun _ _ _ => rfl) (fun ρ us w6 ho ht hc hl hsrc hW => ?_); have e41 := (ht 41 (by decide)).trans (show _ = ((.pointer (some ⟨w.heap.size, 1, none⟩)) : Value) from rfl); obtain ⟨y1, yk, yf, ye⟩ := CEL.out w6 (HB.out.trans (hW.1.mono HB.out.size)); clear ht ho; simp only [execOp, e41]; go_simp; try rfl)
                · (refine OpH.rdg rfl 2 40 false rfl rfl (by decide) (fun _ _ _ => rfl) (fun ρ us w6 ho ht hc hl hsrc hW => ?_); have e6 := (ho 6 rfl).trans (show _ = (.int .i64 (k : Int) : Value) from rfl); clear ht ho; simp only [execOp, e6]; go_simp; try rfl)
                · (refine OpH.rdg rfl 2 40 false rfl rfl (by decide) (fun _ _ _ => rfl) (fun ρ us w6 ho ht hc hl hsrc hW => ?_); have e42 := (ht 42 (by decide)).trans (show _ = ((.slice (some ⟨b1, o1, none⟩) n1 c1) : Value) from rfl); have e43 := (ht 43 (by decide)).trans (show _ = (.int .i64 (k : Int) : Value) from rfl); clear ht ho; simp only [execOp, e42, e43]; go_simp; try rfl)
                · (refine OpH.rdg rfl 2 40 false rfl rfl (by decide) (fun _ _ _ => rfl) (fun ρ us w6 ho ht hc hl hsrc hW => ?_); have e44 := (ht 44 (by decide)).trans (show _ = (.pointer (some ⟨b1, o1 + k, none⟩) : Value) from rfl); obtain ⟨y1, yk, yf, ye⟩ := CEL.out w6 (HB.out.trans (hW.1.mono HB.out.size)); clear ht ho; simp only [execOp, e44]; go_simp; try rfl)
                · (refine OpH.rdg rfl 2 40 false rfl rfl (by decide) (fun _ _ _ => rfl) (fun ρ us w6 ho ht hc hl hsrc hW => ?_); have e45 := (ht 45 (by decide)).trans (show _ = (.slice Ak nk ck : Value) from rfl); clear ht ho; simp only [execOp]; go_simp; try rfl)
                · (refine OpH.rdg rfl 2 40 false rfl rfl (by decide) (fun _ _ _ => rfl) (fun ρ us w6 ho ht hc hl hsrc hW => ?_); have e1 := (ho 1 rfl).trans (show _ = ((.pointer (some ⟨w.heap.size, 0, none⟩)) : Value) from rfl); clear ht ho; simp only [execOp, e1]; go_simp; try rfl)
                · (refine OpH.rdg rfl 2 40 false rfl rfl (by decide) (fun _ _ _ => rfl) (fun ρ us w6 ho ht hc hl hsrc hW => ?_); have e47 := (ht 47 (by decide)).trans (show _ = ((.pointer (some ⟨w.heap.size, 1, none⟩)) : Value) from rfl); obtain ⟨y1, yk, yf, ye⟩ := CEL.out w6 (HB.out.trans (hW.1.mono HB.out.size)); clear ht ho; simp only [execOp, e47]; go_simp; try rfl)
                · (refine OpH.rdg rfl 2 40 false rfl rfl (by decide) (fun _ _ _ => rfl) (fun ρ us w6 ho ht hc hl hsrc hW => ?_); have e5 := (ho 5 rfl).trans (show _ = (.int .i64 (e : Int) : Value) from rfl); clear ht ho; simp only [execOp, e5]; go_simp; try rfl)
                · (refine OpH.rdg rfl 2 40 false rfl rfl (by decide) (fun _ _ _ => rfl) (fun ρ us w6 ho ht hc hl hsrc hW => ?_); have e48 := (ht 48 (by decide)).trans (show _ = ((.slice (some ⟨b1, o1, none⟩) n1 c1) : Value) from rfl); have e49 := (ht 49 (by decide)).trans (show _ = (.int .i64 (e : Int) : Value) from rfl); clear ht ho; simp only [execOp, e48, e49]; go_simp; try rfl)
                · (refine OpH.rdg rfl 2 40 false rfl rfl (by decide) (fun _ _ _ => rfl) (fun ρ us w6 ho ht hc hl hsrc hW => ?_); have e50 := (ht 50 (by decide)).trans (show _ = (.pointer (some ⟨b1, o1 + e, none⟩) : Value) from rfl); obtain ⟨y1, yk, yf, ye⟩ := CEL.out w6 (HB.out.trans (hW.1.mono HB.out.size)); clear ht ho; simp only [execOp, e50]; go_simp; try rfl)
                · (refine OpH.rdg rfl 2 40 false rfl rfl (by decide) (fun _ _ _ => rfl) (fun ρ us w6 ho ht hc hl hsrc hW => ?_); have e51 := (ht 51 (by decide)).trans (show _ = (.slice Ae ne ce : Value) from rfl); clear ht ho; simp only [execOp]; go_simp; try rfl)
                · (refine OpH.rdg rfl 2 40 false rfl rfl (by decide) (fun _ _ _ => rfl) (fun ρ us w6 ho ht hc hl hsrc hW => ?_); have e46 := (ht 46 (by decide)).trans (show _ = (.int .i64 (nk : Int) : Value) from rfl); have e52 := (ht 52 (by decide)).trans (show _ = (.int .i64 (ne : Int) : Value) from rfl); clear ht ho; simp only [execOp, e46, e52]; go_simp; first | rfl | exact congrArg Value.bool (decide_eq_true (by omega)) | exact congrArg Value.bool (decide_eq_false (by omega)) | (simp; done) | (simp; omega))
                · (refine OpH.rd rfl rfl (fun ρ us w6 ho ht hc hl hsrc hW => ?_); have e40 := (ht 40 (by decide)).trans (show _ = (.bool false : Value) from rfl); have e53 := (ht 53 (by decide)).trans (show _ = (.bool false : Value) from rfl); clear ht ho; simp only [execOp, e40, e53]; go_simp; try rfl)
                · intro us wb hmem hW
                  simp only [putAll, List.map_cons, List.map_nil, List.foldl_cons, List.foldl_nil, Act.put, List.setIfInBounds_toArray, List.set_cons_succ, List.set_cons_zero]
                  generalize hsv : slotAt _ _ us = sv
                  have hq : sv 54 = .bool false := by rw [← hsv]; rfl
                  rw [hq]
                  have HB := Lib.hid (HB.out.trans (hW.1.mono HB.out.size))
                  clear hsv hq hmem hW
                  go_wp2
                  exact ⟨⟨k + 1, by omega, by go_num, by rw [HF.out]; rfl, by rw [HF.out]; rfl, HB⟩, by simp [intOf]; omega⟩
          · by_cases hB : ne < nk
            · have HF : Hid (edgesN x (k + 1) = (f, k, true)) := Lib.hid (by rw [hstep, if_pos ⟨rfl, hA⟩, if_neg (fun h => h.2 hB)])
              clear hstep
              go_wp2_with fail
              refine region_free (by kernel_rfl) (by kernel_rfl) 58 rfl [20, 21, 22, 23, 24, 25, 26, 27, 28, 29, 30, 31, 32, 33, 34, 35, 36] [] []
                [(20, [], fun _ => .int .i64 (f : Int)), (21, [], fun _ => .bool false), (22, [], fun _ => .bool false), (23, [], fun _ => (.pointer (some ⟨w.heap.size, 1, none⟩))), (24, [], fun _ => (.slice (some ⟨b1, o1, none⟩) n1 c1)), (25, [], fun _ => .int .i64 (k : Int)), (26, [], fun _ => .pointer (some ⟨b1, o1 + k, none⟩)), (27, [], fun _ => .slice Ak nk ck), (28, [], fun _ => .int .i64 (nk : Int)), (29, [], fun _ => (.pointer (some ⟨w.heap.size, 1, none⟩))), (30, [], fun _ => (.slice (some ⟨b1, o1, none⟩) n1 c1)), (31, [], fun _ => .int .i64 (f : Int)), (32, [], fun _ => .pointer (some ⟨b1, o1 + f, none⟩)), (33, [], fun _ => .slice Af nf cf), (34, [], fun _ => .int .i64 (nf : Int)), (35, [], fun _ => .bool false), (36, [], fun _ => .bool false)]
                [] [] [[], [20], [21], [22], [23, 22], [22], [24, 25, 22], [26, 22], [27, 22], [22], [29, 22], [22], [30, 31, 22], [32, 22], [33, 22], [28, 34, 22], [22, 35]] (WdB wr (fun _ _ _ => True)) (by kernel_rfl) .init ⟨?_, ?_, ?_, ?_, ?_, ?_, ?_, ?_, ?_, ?_, ?_, ?_, ?_, ?_, ?_, ?_, ?_, trivial⟩ ?_
              · (refine OpH.rd rfl rfl (fun ρ us w6 ho ht hc hl hsrc hW => ?_); have e4 := (ho 4 rfl).trans (show _ = (.int .i64 (f : Int) : Value) from rfl); clear ht ho; simp only [execOp, e4]; go_simp; try rfl)
              · (refine OpH.rd rfl rfl (fun ρ us w6 ho ht hc hl hsrc hW => ?_); have e20 := (ht 20 (by decide)).trans (show _ = (.int .i64 (f : Int) : Value) from rfl); clear ht ho; simp only [execOp, e20]; go_simp; first | rfl | exact congrArg Value.bool (decide_eq_true (by omega)) | exact congrArg Value.bool (decide_eq_false (by omega)) | (simp; done) | (simp; omega))
              · (refine OpH.rd rfl rfl (fun ρ us w6 ho ht hc hl hsrc hW => ?_); have e21 := (ht 21 (by decide)).trans (show _ = (.bool false : Value) from rfl); clear ht ho; simp only [execOp, e21]; go_simp; try rfl)
              · (refine OpH.rdg rfl 2 22 false rfl rfl (by decide) (fun _ _ _ => rfl) (fun ρ us w6 ho ht hc hl hsrc hW => ?_); have e1 := (ho 1 rfl).trans (show _ = ((.pointer (some ⟨w.heap.size, 0, none⟩)) : Value) from rfl); clear ht ho; simp only [execOp, e1]; go_simp; try rfl)
              · (refine OpH.rdg rfl 2 22 false rfl rfl (by decide) (fun _ _ _ => rfl) (fun ρ us w6 ho ht hc hl hsrc hW => ?_); have e23 := (ht 23 (by decide)).trans (show _ = ((.pointer (some ⟨w.heap.size, 1, none⟩)) : Value) from rfl); obtain ⟨y1, yk, yf, ye⟩ := CEL.out w6 (HB.out.trans (hW.1.mono HB.out.size)); clear ht ho; simp only [execOp, e23]; go_simp; try rfl)
              · (refine OpH.rdg rfl 2 22 false rfl rfl (by decide) (fun _ _ _ => rfl) (fun ρ us w6 ho ht hc hl hsrc hW => ?_); have e6 := (ho 6 rfl).trans (show _ = (.int .i64 (k : Int) : Value) from rfl); clear ht ho; simp only [execOp, e6]; go_simp; try rfl)
              · (refine OpH.rdg rfl 2 22 false rfl rfl (by decide) (fun _ _ _ => rfl) (fun ρ us w6 ho ht hc hl hsrc hW => ?_); have e24 := (ht 24 (by decide)).trans (show _ = ((.slice (some ⟨b1, o1, none⟩) n1 c1) : Value) from rfl); have e25 := (ht 25 (by decide)).trans (show _ = (.int .i64 (k : Int) : Value) from rfl); clear ht ho; simp only [execOp, e24, e25]; go_simp; try rfl)
              · (refine OpH.rdg rfl 2 22 false rfl rfl (by decide) (fun _ _ _ => rfl) (fun ρ us w6 ho ht hc hl hsrc hW => ?_); have e26 := (ht 26 (by decide)).trans (show _ = (.pointer (some ⟨b1, o1 + k, none⟩) : Value) from rfl); obtain ⟨y1, yk, yf, ye⟩ := CEL.out w6 (HB.out.trans (hW.1.mono HB.out.size)); clear ht ho; simp only [execOp, e26]; go_simp; try rfl)
              · (refine OpH.rdg rfl 2 22 false rfl rfl (by decide) (fun _ _ _ => rfl) (fun ρ us w6 ho ht hc hl hsrc hW => ?_); have e27 := (ht 27 (by decide)).trans (show _ = (.slice Ak nk ck : Value) from rfl); clear ht ho; simp only [execOp]; go_simp; try rfl)
              · (refine OpH.rdg rfl 2 22 false rfl rfl (by decide) (fun _ _ _ => rfl) (fun ρ us w6 ho ht hc hl hsrc hW => ?_); have e1 := (ho 1 rfl).trans (show _ = ((.pointer (some ⟨w.heap.size, 0, none⟩)) : Value) from rfl); clear ht ho; simp only [execOp, e1]; go_simp; try rfl)
              · (refine OpH.rdg rfl 2 22 false rfl rfl (by decide) (fun _ _ _ => rfl) (fun ρ us w6 ho ht hc hl hsrc hW => ?_); have e29 := (ht 29 (by decide)).trans (show _ = ((.pointer (some ⟨w.heap.size, 1, none⟩)) : Value) from rfl); obtain ⟨y1, yk, yf, ye⟩ := CEL.out w6 (HB.out.trans (hW.1.mono HB.out.size)); clear ht ho; simp only [execOp, e29]; go_simp; try rfl)
              · (refine OpH.rdg rfl 2 22 false rfl rfl (by decide) (fun _ _ _ => rfl) (fun ρ us w6 ho ht hc hl hsrc hW => ?_); have e4 := (ho 4 rfl).trans (show _ = (.int .i64 (f : Int) : Value) from rfl); clear ht ho; simp only [execOp, e4]; go_simp; try rfl)
              · (refine OpH.rdg rfl 2 22 false rfl rfl (by decide) (fun _ _ _ => rfl) (fun ρ us w6 ho ht hc hl hsrc hW => ?_); have e30 := (ht 30 (by decide)).trans (show _ = ((.slice (some ⟨b1, o1, none⟩) n1 c1) : Value) from rfl); have e31 := (ht 31 (by decide)).trans (show _ = (.int .i64 (f : Int) : Value) from rfl); clear ht ho; simp only [execOp, e30, e31]; go_simp; try rfl)
              · (refine OpH.rdg rfl 2 22 false rfl rfl (by decide) (fun _ _ _ => rfl) (fun ρ us w6 ho ht hc hl hsrc hW => ?_); have e32 := (ht 32 (by decide)).trans (show _ = (.pointer (some ⟨b1, o1 + f, none⟩) : Value) from rfl); obtain ⟨y1, yk, yf, ye⟩ := CEL.out w6 (HB.out.trans (hW.1.mono HB.out.size)); clear ht ho; simp only [execOp, e32]; go_simp; try rfl)
              · (refine OpH.rdg rfl 2 22 false rfl rfl (by decide) (fun _ _ _ => rfl) (fun ρ us w6 ho ht hc hl hsrc hW => ?_); have e33 := (ht 33 (by decide)).trans (show _ = (.slice Af nf cf : Value) from rfl); clear ht ho; simp only [execOp]; go_simp; try rfl)
              · (refine OpH.rdg rfl 2 22 false rfl rfl (by decide) (fun _ _ _ => rfl) (fun ρ us w6 ho ht hc hl hsrc hW => ?_); have e28 := (ht 28 (by decide)).trans (show _ = (.int .i64 (nk : Int) : Value) from rfl); have e34 := (ht 34 (by decide)).trans (show _ = (.int .i64 (nf : Int) : Value) from rfl); clear ht ho; simp only [execOp, e28, e34]; go_simp; first | rfl | exact congrArg Value.bool (decide_eq_true (by omega)) | exact congrArg Value.bool (decide_eq_false (by omega)) | (simp; done) | (simp; omega))
              · (refine OpH.rd rfl rfl (fun ρ us w6 ho ht hc hl hsrc hW => ?_); have e22 := (ht 22 (by decide)).trans (show _ = (.bool false : Value) from rfl); have e35 := (ht 35 (by decide)).trans (show _ = (.bool false : Value) from rfl); clear ht ho; simp only [execOp, e22, e35]; go_simp; try rfl)
              · intro us wa hmem hW
                simp only [putAll, List.map_cons, List.map_nil, List.foldl_cons, List.foldl_nil, Act.put, List.setIfInBounds_toArray, List.set_cons_succ, List.set_cons_zero]
                generalize hsv : slotAt _ _ us = sv
                have hq : sv 36 = .bool false := by rw [← hsv]; rfl
                rw [hq]
                have HB := Lib.hid (HB.out.trans (hW.1.mono HB.out.size))
                clear hsv hq hmem hW
                go_wp2_with fail
                refine region_free (by kernel_rfl) (by kernel_rfl) 58 rfl [38, 39, 40, 41, 42, 43, 44, 45, 46, 47, 48, 49, 50, 51, 52, 53, 54] [] []
                  [(38, [], fun _ => .int .i64 (e : Int)), (39, [], fun _ => .bool false), (40, [], fun _ => .bool false), (41, [], fun _ => (.pointer (some ⟨w.heap.size, 1, none⟩))), (42, [], fun _ => (.slice (some ⟨b1, o1, none⟩) n1 c1)), (43, [], fun _ => .int .i64 (k : Int)), (44, [], fun _ => .pointer (some ⟨b1, o1 + k, none⟩)), (45, [], fun _ => .slice Ak nk ck), (46, [], fun _ => .int .i64 (nk : Int)), (47, [], fun _ => (.pointer (some ⟨w.heap.size, 1, none⟩))), (48, [], fun _ => (.slice (some ⟨b1, o1, none⟩) n1 c1)), (49, [], fun _ => .int .i64 (e : Int)), (50, [], fun _ => .pointer (some ⟨b1, o1 + e, none⟩)), (51, [], fun _ => .slice Ae ne ce), (52, [], fun _ => .int .i64 (ne : Int)), (53, [], fun _ => .bool true), (54, [], fun _ => .bool true)]
                  [] [] [[], [38], [39], [40], [41, 40], [40], [42, 43, 40], [44, 40], [45, 40], [40], [47, 40], [40], [48, 49, 40], [50, 40], [51, 40], [46, 52, 40], [40, 53]] (WdB wa (fun _ _ _ => True)) (by kernel_rfl) .init ⟨?_, ?_, ?_, ?_, ?_, ?_, ?_, ?_, ?_, ?_, ?_, ?_, ?_, ?_, ?_, ?_, ?_, trivial⟩ ?_
                · (refine OpH.rd rfl rfl (fun ρ us w6 ho ht hc hl hsrc hW => ?_); have e5 := (ho 5 rfl).trans (show _ = (.int .i64 (e : Int) : Value) from rfl); clear ht ho; simp only [execOp, e5]; go_simp; try rfl)
                · (refine OpH.rd rfl rfl (fun ρ us w6 ho ht hc hl hsrc hW => ?_); have e38 := (ht 38 (by decide)).trans (show _ = (.int .i64 (e : Int) : Value) from rfl); clear ht ho; simp only [execOp, e38]; go_simp; first | rfl | exact congrArg Value.bool (decide_eq_true (by omega)) | exact congrArg Value.bool (decide_eq_false (by omega)) | (simp; done) | (simp; omega))
                · (refine OpH.rd rfl rfl (fun ρ us w6 ho ht hc hl hsrc hW => ?_); have e39 := (ht 39 (by decide)).trans (show _ = (.bool false : Value) from rfl); clear ht ho; simp only [execOp, e39]; go_simp; try rfl)
                · (refine OpH.rdg rfl 2 40 false rfl rfl (by decide) (fun _ _ _ => rfl) (fun ρ us w6 ho ht hc hl hsrc hW => ?_); have e1 := (ho 1 rfl).trans (show _ = ((.pointer (some ⟨w.heap.size, 0, none⟩)) : Value) from rfl); clear ht ho; simp only [execOp, e1]; go_simp; try rfl)
                · (refine OpH.rdg rfl 2 40 false rfl rfl (by decide) (fun _ _ _ => rfl) (fun ρ us w6 ho ht hc hl hsrc hW => ?_); have e41 := (ht 41 (by decide)).trans (show _ = ((.pointer (some ⟨w.heap.size, 1, none⟩)) : Value) from rfl); obtain ⟨y1, yk, yf, ye⟩ := CEL.out w6 (HB.out.trans (hW.1.mono HB.out.size)); clear ht ho; simp only [execOp, e41]; go_simp; try rfl)
                · (refine OpH.rdg rfl 2 40 false rfl rfl (by decide) (fun _ _ _ => rfl) (fun ρ us w6 ho ht hc hl hsrc hW => ?_); have e6 := (ho 6 rfl).trans (show _ = (.int .i64 (k : Int) : Value) from rfl); clear ht ho; simp only [execOp, e6]; go_simp; try rfl)
                · (refine OpH.rdg rfl 2 40 false rfl rfl (by decide) (fun _ _ _ => rfl) (fun ρ us w6 ho ht hc hl hsrc hW => ?_); have e42 := (ht 42 (by decide)).trans (show _ = ((.slice (some ⟨b1, o1, none⟩) n1 c1) : Value) from rfl); have e43 := (ht 43 (by decide)).trans (show _ = (.int .i64 (k : Int) : Value) from rfl); clear ht ho; simp only [execOp, e42, e43]; go_simp; try rfl)
                · (refine OpH.rdg rfl 2 40 false rfl rfl (by decide) (fun _ _ _ => rfl) (fun ρ us w6 ho ht hc hl hsrc hW => ?_); have e44 := (ht 44 (by decide)).trans (show _ = (.pointer (some ⟨b1, o1 + k, none⟩) : Value) from rfl); obtain ⟨y1, yk, yf, ye⟩ := CEL.out w6 (HB.out.trans (hW.1.mono HB.out.size)); clear ht ho; simp only [execOp, e44]; go_simp; try rfl)
                · (refine OpH.rdg rfl 2 40 false rfl rfl (by decide) (fun _ _ _ => rfl) (fun ρ us w6 ho ht hc hl hsrc hW => ?_); have e45 := (ht 45 (by decide)).trans (show _ = (.slice Ak nk ck : Value) from rfl); clear ht ho; simp only [execOp]; go_simp; try rfl)
                · (refine OpH.rdg rfl 2 40 false rfl rfl (by decide) (fun _ _ _ => rfl) (fun ρ us w6 ho ht hc hl hsrc hW => ?_); have e1 := (ho 1 rfl).trans (show _ = ((.pointer (some ⟨w.heap.size, 0, none⟩)) : Value) from rfl); clear ht ho; simp only [execOp, e1]; go_simp; try rfl)
                · (refine OpH.rdg rfl 2 40 false rfl rfl (by decide) (fun _ _ _ => rfl) (fun ρ us w6 ho ht hc hl hsrc hW => ?_); have e47 := (ht 47 (by decide)).trans (show _ = ((.pointer (some ⟨w.heap.size, 1, none⟩)) : Value) from rfl); obtain ⟨y1, yk, yf, ye⟩ := CEL.out w6 (HB.out.trans (hW.1.mono HB.out.size)); clear ht ho; simp only [execOp, e47]; go_simp; try rfl)
                · (refine OpH.rdg rfl 2 40 false rfl rfl (by decide) (fun _ _ _ => rfl) (fun ρ us w6 ho ht hc hl hsrc hW => ?_); have e5 := (ho 5 rfl).trans (show _ = (.int .i64 (e : Int) : Value) from rfl); clear ht ho; simp only [execOp, e5]; go_simp; try rfl)
                · (refine OpH.rdg rfl 2 40 false rfl rfl (by decide) (fun _ _ _ => rfl) (fun ρ us w6 ho ht hc hl hsrc hW => ?_); have e48 := (ht 48 (by decide)).trans (show _ = ((.slice (some ⟨b1, o1, none⟩) n1 c1) : Value) from rfl); have e49 := (ht 49 (by decide)).trans (show _ = (.int .i64 (e : Int) : Value) from rfl); clear ht ho; simp only [execOp, e48, e49]; go_simp; try rfl)
                · (refine OpH.rdg rfl 2 40 false rfl rfl (by decide) (fun _ _ _ => rfl) (fun ρ us w6 ho ht hc hl hsrc hW => ?_); have e50 := (ht 50 (by decide)).trans (show _ = (.pointer (some ⟨b1, o1 + e, none⟩) : Value) from rfl); obtain ⟨y1, yk, yf, ye⟩ := CEL.out w6 (HB.out.trans (hW.1.mono HB.out.size)); clear ht ho; simp only [execOp, e50]; go_simp; try rfl)
                · (refine OpH.rdg rfl 2 40 false rfl rfl (by decide) (fun _ _ _ => rfl) (fun ρ us w6 ho ht hc hl hsrc hW => ?_); have e51 := (ht 51 (by decide)).trans (show _ = (.slice Ae ne ce : Value) from rfl); clear ht ho; simp only [execOp]; go_simp; try rfl)
                · (refine OpH.rdg rfl 2 40 false rfl rfl (by decide) (fun _ _ _ => rfl) (fun ρ us w6 ho ht hc hl hsrc hW => ?_); have e46 := (ht 46 (by decide)).trans (show _ = (.int .i64 (nk : Int) : Value) from rfl); have e52 := (ht 52 (by decide)).trans (show _ = (.int .i64 (ne : Int) : Value) from rfl); clear ht ho; simp only [execOp, e46, e52]; go_simp; first | rfl | exact congrArg Value.bool (decide_eq_true (by omega)) | exact congrArg Value.bool (decide_eq_false (by omega)) | (simp; done) | (simp; omega))
                · (refine OpH.rd rfl rfl (fun ρ us w6 ho ht hc hl hsrc hW => ?_); have e40 := (ht 40 (by decide)).trans (show _ = (.bool false : Value) from rfl); have e53 := (ht 53 (by decide)).trans (show _ = (.bool true : Value) from rfl); clear ht ho; simp only [execOp, e40, e53]; go_simp; try rfl)
                · intro us wb hmem hW
                  simp only [putAll, List.map_cons, List.map_nil, List.foldl_cons, List.foldl_nil, Act.put, List.setIfInBounds_toArray, List.set_cons_succ, List.set_cons_zero]
                  generalize hsv : slotAt _ _ us = sv
                  have hq : sv 54 = .bool true := by rw [← hsv]; rfl
                  rw [hq]
                  have HB := Lib.hid (HB.out.trans (hW.1.mono HB.out.size))
                  clear hsv hq hmem hW
                  go_wp2
                  exact ⟨⟨k + 1, by omega, by go_num, by rw [HF.out]; rfl, by rw [HF.out]; rfl, HB⟩, by simp [intOf]; omega⟩
            · have HF : Hid (edgesN x (k + 1) = (f, e, true)) := Lib.hid (by rw [hstep, if_pos ⟨rfl, hA⟩, if_pos ⟨rfl, hB⟩])
              clear hstep
              go_wp2_with fail
              refine region_free (by kernel_rfl) (by kernel_rfl) 58 rfl [20, 21, 22, 23, 24, 25, 26, 27, 28, 29, 30, 31, 32, 33, 34, 35, 36] [] []
                [(20, [], fun _ => .int .i64 (f : Int)), (21, [], fun _ => .bool false), (22, [], fun _ => .bool false), (23, [], fun _ => (.pointer (some ⟨w.heap.size, 1, none⟩))), (24, [], fun _ => (.slice (some ⟨b1, o1, none⟩) n1 c1)), (25, [], fun _ => .int .i64 (k : Int)), (26, [], fun _ => .pointer (some ⟨b1, o1 + k, none⟩)), (27, [], fun _ => .slice Ak nk ck), (28, [], fun _ => .int .i64 (nk : Int)), (29, [], fun _ => (.pointer (some ⟨w.heap.size, 1, none⟩))), (30, [], fun _ => (.slice (some ⟨b1, o1, none⟩) n1 c1)), (31, [], fun _ => .int .i64 (f : Int)), (32, [], fun _ => .pointer (some ⟨b1, o1 + f, none⟩)), (33, [], fun _ => .slice Af nf cf), (34, [], fun _ => .int .i64 (nf : Int)), (35, [], fun _ => .bool false), (36, [], fun _ => .bool false)]
                [] [] [[], [20], [21], [22], [23, 22], [22], [24, 25, 22], [26, 22], [27, 22], [22], [29, 22], [22], [30, 31, 22], [32, 22], [33, 22], [28, 34, 22], [22, 35]] (WdB wr (fun _ _ _ => True)) (by kernel_rfl) .init ⟨?_, ?_, ?_, ?_, ?_, ?_, ?_, ?_, ?_, ?_, ?_, ?_, ?_, ?_, ?_, ?_, ?_, trivial⟩ ?_
              · (refine OpH.rd rfl rfl (fun ρ us w6 ho ht hc hl hsrc hW => ?_); have e4 := (ho 4 rfl).trans (show _ = (.int .i64 (f : Int) : Value) from rfl); clear ht ho; simp only [execOp, e4]; go_simp; try rfl)
              · (refine OpH.rd rfl rfl (fun ρ us w6 ho ht hc hl hsrc hW => ?_); have e20 := (ht 20 (by decide)).trans (show _ = (.int .i64 (f : Int) : Value) from rfl); clear ht ho; simp only [execOp, e20]; go_simp; first | rfl | exact congrArg Value.bool (decide_eq_true (by omega)) | exact congrArg Value.bool (decide_eq_false (by omega)) | (simp; done) | (simp; omega))
              · (refine OpH.rd rfl rfl (fun ρ us w6 ho ht hc hl hsrc hW => ?_); have e21 := (ht 21 (by decide)).trans (show _ = (.bool false : Value) from rfl); clear ht ho; simp only [execOp, e21]; go_simp; try rfl)
              · (refine OpH.rdg rfl 2 22 false rfl rfl (by decide) (fun _ _ _ => rfl) (fun ρ us w6 ho ht hc hl hsrc hW => ?_); have e1 := (ho 1 rfl).trans (show _ = ((.pointer (some ⟨w.heap.size, 0, none⟩)) : Value) from rfl); clear ht ho; simp only [execOp, e1]; go_simp; try rfl)
              · (refine OpH.rdg rfl 2 22 false rfl rfl (by decide) (fun _ _ _ => rfl) (fun ρ us w6 ho ht hc hl hsrc hW => ?_); have e23 := (ht 23 (by decide)).trans (show _ = ((.pointer (some ⟨w.heap.size, 1, none⟩)) : Value) from rfl); obtain ⟨y1, yk, yf, ye⟩ := CEL.out w6 (HB.out.trans (hW.1.mono HB.out.size)); clear ht ho; simp only [execOp, e23]; go_simp; try rfl)
              · (refine OpH.rdg rfl 2 22 false rfl rfl (by decide) (fun _ _ _ => rfl) (fun ρ us w6 ho ht hc hl hsrc hW => ?_); have e6 := (ho 6 rfl).trans (show _ = (.int .i64 (k : Int) : Value) from rfl); clear ht ho; simp only [execOp, e6]; go_simp; try rfl)
              · (refine OpH.rdg rfl 2 22 false rfl rfl (by decide) (fun _ _ _ => rfl) (fun ρ us w6 ho ht hc hl hsrc hW => ?_); have e24 := (ht 24 (by decide)).trans (show _ = ((.slice (some ⟨b1, o1, none⟩) n1 c1) : Value) from rfl); have e25 := (ht 25 (by decide)).trans (show _ = (.int .i64 (k : Int) : Value) from rfl); clear ht ho; simp only [execOp, e24, e25]; go_simp; try rfl)
              · (refine OpH.rdg rfl 2 22 false rfl rfl (by decide) (fun _ _ _ => rfl) (fun ρ us w6 ho ht hc hl hsrc hW => ?_); have e26 := (ht 26 (by decide)).trans (show _ = (.pointer (some ⟨b1, o1 + k, none⟩) : Value) from rfl); obtain ⟨y1, yk, yf, ye⟩ := CEL.out w6 (HB.out.trans (hW.1.mono HB.out.size)); clear ht ho; simp only [execOp, e26]; go_simp; try rfl)
              · (refine OpH.rdg rfl 2 22 false rfl rfl (by decide) (fun _ _ _ => rfl) (fun ρ us w6 ho ht hc hl hsrc hW => ?_); have e27 := (ht 27 (by decide)).trans (show _ = (.slice Ak nk ck : Value) from rfl); clear ht ho; simp only [execOp]; go_simp; try rfl)
              · (refine OpH.rdg rfl 2 22 false rfl rfl (by decide) (fun _ _ _ => rfl) (fun ρ us w6 ho ht hc hl hsrc hW => ?_); have e1 := (ho 1 rfl).trans (show _ = ((.pointer (some ⟨w.heap.size, 0, none⟩)) : Value) from rfl); clear ht ho; simp only [execOp, e1]; go_simp; try rfl)
              · (refine OpH.rdg rfl 2 22 false rfl rfl (by decide) (fun _ _ _ => rfl) (fun ρ us w6 ho ht hc hl hsrc hW => ?_); have e29 := (ht 29 (by decide)).trans (show _ = ((.pointer (some ⟨w.heap.size, 1, none⟩)) : Value) from rfl); obtain ⟨y1, yk, yf, ye⟩ := CEL.out w6 (HB.out.trans (hW.1.mono HB.out.size)); clear ht ho; simp only [execOp, e29]; go_simp; try rfl)
              · (refine OpH.rdg rfl 2 22 false rfl rfl (by decide) (fun _ _ _ => rfl) (fun ρ us w6 ho ht hc hl hsrc hW => ?_); have e4 := (ho 4 rfl).trans (show _ = (.int .i64 (f : Int) : Value) from rfl); clear ht ho; simp only [execOp, e4]; go_simp; try rfl)
              · (refine OpH.rdg rfl 2 22 false rfl rfl (by decide) (fun _ _ _ => rfl) (fun ρ us w6 ho ht hc hl hsrc hW => ?_); have e30 := (ht 30 (by decide)).trans (show _ = ((.slice (some ⟨b1, o1, none⟩) n1 c1) : Value) from rfl); have e31 := (ht 31 (by decide)).trans (show _ = (.int .i64 (f : Int) : Value) from rfl); clear ht ho; simp only [execOp, e30, e31]; go_simp; try rfl)
              · (refine OpH.rdg rfl 2 22 false rfl rfl (by decide) (fun _ _ _ => rfl) (fun ρ us w6 ho ht hc hl hsrc hW => ?_); have e32 := (ht 32 (by decide)).trans (show _ = (.pointer (some ⟨b1, o1 + f, none⟩) : Value) from rfl); obtain ⟨y1, yk, yf, ye⟩ := CEL.out w6 (HB.out.trans (hW.1.mono HB.out.size)); clear ht ho; simp only [execOp, e32]; go_simp; try rfl)
              · (refine OpH.rdg rfl 2 22 false rfl rfl (by decide) (fun _ _ _ => rfl) (fun ρ us w6 ho ht hc hl hsrc hW => ?_); have e33 := (ht 33 (by decide)).trans (show _ = (.slice Af nf cf : Value) from rfl); clear ht ho; simp only [execOp]; go_simp; try rfl)
              · (refine OpH.rdg rfl 2 22 false rfl rfl (by decide) (fun _ _ _ => rfl) (fun ρ us w6 ho ht hc hl hsrc hW => ?_); have e28 := (ht 28 (by decide)).trans (show _ = (.int .i64 (nk : Int) : Value) from rfl); have e34 := (ht 34 (by decide)).trans (show _ = (.int .i64 (nf : Int) : Value) from rfl); clear ht ho; simp only [execOp, e28, e34]; go_simp; first | rfl | exact congrArg Value.bool (decide_eq_true (by omega)) | exact congrArg Value.bool (decide_eq_false (by omega)) | (simp; done) | (simp; omega))
              · (refine OpH.rd rfl rfl (fun ρ us w6 ho ht hc hl hsrc hW => ?_); have e22 := (ht 22 (by decide)).trans (show _ = (.bool false : Value) from rfl); have e35 := (ht 35 (by decide)).trans (show _ = (.bool false : Value) from rfl); clear ht ho; simp only [execOp, e22, e35]; go_simp; try rfl)
              · intro us wa hmem hW
                simp only [putAll, List.map_cons, List.map_nil, List.foldl_cons, List.foldl_nil, Act.put, List.setIfInBounds_toArray, List.set_cons_succ, List.set_cons_zero]
                generalize hsv : slotAt _ _ us = sv
                have hq : sv 36 = .bool false := by rw [← hsv]; rfl
                rw [hq]
                have HB := Lib.hid (HB.out.trans (hW.1.mono HB.out.size))
                clear hsv hq hmem hW
                go_wp2_with fail
                refine region_free (by kernel_rfl) (by kernel_rfl) 58 rfl [38, 39, 40, 41, 42, 43, 44, 45, 46, 47, 48, 49, 50, 51, 52, 53, 54] [] []
                  [(38, [], fun _ => .int .i64 (e : Int)), (39, [], fun _ => .bool false), (40, [], fun _ => .bool false), (41, [], fun _ => (.pointer (some ⟨w.heap.size, 1, none⟩))), (42, [], fun _ => (.slice (some ⟨b1, o1, none⟩) n1 c1)), (43, [], fun _ => .int .i64 (k : Int)), (44, [], fun _ => .pointer (some ⟨b1, o1 + k, none⟩)), (45, [], fun _ => .slice Ak nk ck), (46, [], fun _ => .int .i64 (nk : Int)), (47, [], fun _ => (.pointer (some ⟨w.heap.size, 1, none⟩))), (48, [], fun _ => (.slice (some ⟨b1, o1, none⟩) n1 c1)), (49, [], fun _ => .int .i64 (e : Int)), (50, [], fun _ => .pointer (some ⟨b1, o1 + e, none⟩)), (51, [], fun _ => .slice Ae ne ce), (52, [], fun _ => .int .i64 (ne : Int)), (53, [], fun _ => .bool false), (54, [], fun _ => .bool false)]
                  [] [] [[], [38], [39], [40], [41, 40], [40], [42, 43, 40], [44, 40], [45, 40], [40], [47, 40], [40], [48, 49, 40], [50, 40], [51, 40], [46, 52, 40], [40, 53]] (WdB wa (fun _ _ _ => True)) (by kernel_rfl) .init ⟨?_, ?_, ?_, ?_, ?_, ?_, ?_, ?_, ?_, ?_, ?_, ?_, ?_, ?_, ?_, ?_, ?_, trivial⟩ ?_
                · (refine OpH.rd rfl rfl (fun ρ us w6 ho ht hc hl hsrc hW => ?_); have e5 := (ho 5 rfl).trans (show _ = (.int .i64 (e : Int) : Value) from rfl); clear ht ho; simp only [execOp, e5]; go_simp; try rfl)
                · (refine OpH.rd rfl rfl (fun ρ us w6 ho ht hc hl hsrc hW => ?_); have e38 := (ht 38 (by decide)).trans (show _ = (.int .i64 (e : Int) : Value) from rfl); clear ht ho; simp only [execOp, e38]; go_simp; first | rfl | exact congrArg Value.bool (decide_eq_true (by omega)) | exact congrArg Value.bool (decide_eq_false (by omega)) | (simp; done) | (simp; omega))
                · (refine OpH.rd rfl rfl (fun ρ us w6 ho ht hc hl hsrc hW => ?_); have e39 := (ht 39 (by decide)).trans (show _ = (.bool false : Value) from rfl); clear ht ho; simp only [execOp, e39]; go_simp; try rfl)
                · (refine OpH.rdg rfl 2 40 false rfl rfl (by decide) (fun _ _ _ => rfl) (fun ρ us w6 ho ht hc hl hsrc hW => ?_); have e1 := (ho 1 rfl).trans (show _ = ((.pointer (some ⟨w.heap.size, 0, none⟩)) : Value) from rfl); clear ht ho; simp only [execOp, e1]; go_simp; try rfl)
                · (refine OpH.rdg rfl 2 40 false rfl rfl (by decide) (fun _ _ _ => rfl) (fun ρ us w6 ho ht hc hl hsrc hW => ?_); have e41 := (ht 41 (by decide)).trans (show _ = ((.pointer (some ⟨w.heap.size, 1, none⟩)) : Value) from rfl); obtain ⟨y1, yk, yf, ye⟩ := CEL.out w6 (HB.out.trans (hW.1.mono HB.out.size)); clear ht ho; simp only [execOp, e41]; go_simp; try rfl)
                · (refine OpH.rdg rfl 2 40 false rfl rfl (by decide) (fun _ _ _ => rfl) (fun ρ us w6 ho ht hc hl hsrc hW => ?_); have e6 := (ho 6 rfl).trans (show _ = (.int .i64 (k : Int) : Value) from rfl); clear ht ho; simp only [execOp, e6]; go_simp; try rfl)
                · (refine OpH.rdg rfl 2 40 false rfl rfl (by decide) (fun _ _ _ => rfl) (fun ρ us w6 ho ht hc hl hsrc hW => ?_); have e42 := (ht 42 (by decide)).trans (show _ = ((.slice (some ⟨b1, o1, none⟩) n1 c1) : Value) from rfl); have e43 := (ht 43 (by decide)).trans (show _ = (.int .i64 (k : Int) : Value) from rfl); clear ht ho; simp only [execOp, e42, e43]; go_simp; try rfl)
                · (refine OpH.rdg rfl 2 40 false rfl rfl (by decide) (fun _ _ _ => rfl) (fun ρ us w6 ho ht hc hl hsrc hW => ?_); have e44 := (ht 44 (by decide)).trans (show _ = (.pointer (some ⟨b1, o1 + k, none⟩) : Value) from rfl); obtain ⟨y1, yk, yf, ye⟩ := CEL.out w6 (HB.out.trans (hW.1.mono HB.out.size)); clear ht ho; simp only [execOp, e44]; go_simp; try rfl)
                · (refine OpH.rdg rfl 2 40 false rfl rfl (by decide) (fun _ _ _ => rfl) (fun ρ us w6 ho ht hc hl hsrc hW => ?_); have e45 := (ht 45 (by decide)).trans (show _ = (.slice Ak nk ck : Value) from rfl); clear ht ho; simp only [execOp]; go_simp; try rfl)
                · (refine OpH.rdg rfl 2 40 false rfl rfl (by decide) (fun _ _ _ => rfl) (fun ρ us w6 ho ht hc hl hsrc hW => ?_); have e1 := (ho 1 rfl).trans (show _ = ((.pointer (some ⟨w.heap.size, 0, none⟩)) : Value) from rfl); clear ht ho; simp only [execOp, e1]; go_simp; try rfl)
                · (refine OpH.rdg rfl 2 40 false rfl rfl (by decide) (fun _ _ _ => rfl) (fun ρ us w6 ho ht hc hl hsrc hW => ?_); have e47 := (ht 47 (by decide)).trans (show _ = ((.pointer (some ⟨w.heap.size, 1, none⟩)) : Value) from rfl); obtain ⟨y1, yk, yf, ye⟩ := CEL.out w6 (HB.out.trans (hW.1.mono HB.out.size)); clear ht ho; simp only [execOp, e47]; go_simp; try rfl)
                · (refine OpH.rdg rfl 2 40 false rfl rfl (by decide) (fun _ _ _ => rfl) (fun ρ us w6 ho ht hc hl hsrc hW => ?_); have e5 := (ho 5 rfl).trans (show _ = (.int .i64 (e : Int) : Value) from rfl); clear ht ho; simp only [execOp, e5]; go_simp; try rfl)
                · (refine OpH.rdg rfl 2 40 false rfl rfl (by decide) (fun _ _ _ => rfl) (fun ρ us w6 ho ht hc hl hsrc hW => ?_); have e48 := (ht 48 (by decide)).trans (show _ = ((.slice (some ⟨b1, o1, none⟩) n1 c1) : Value) from rfl); have e49 := (ht 49 (by decide)).trans (show _ = (.int .i64 (e : Int) : Value) from rfl); clear ht ho; simp only [execOp, e48, e49]; go_simp; try rfl)
                · (refine OpH.rdg rfl 2 40 false rfl rfl (by decide) (fun _ _ _ => rfl) (fun ρ us w6 ho ht hc hl hsrc hW => ?_); have e50 := (ht 50 (by decide)).trans (show _ = (.pointer (some ⟨b1, o1 + e, none⟩) : Value) from rfl); obtain ⟨y1, yk, yf, ye⟩ := CEL.out w6 (HB.out.trans (hW.1.mono HB.out.size)); clear ht ho; simp only [execOp, e50]; go_simp; try rfl)
                · (refine OpH.rdg rfl 2 40 false rfl rfl (by decide) (fun _ _ _ => rfl) (fun ρ us w6 ho ht hc hl hsrc hW => ?_); have e51 := (ht 51 (by decide)).trans (show _ = (.slice Ae ne ce : Value) from rfl); clear ht ho; simp only [execOp]; go_simp; try rfl)
                · (refine OpH.rdg rfl 2 40 false rfl rfl (by decide) (fun _ _ _ => rfl) (fun ρ us w6 ho ht hc hl hsrc hW => ?_); have e46 := (ht 46 (by decide)).trans (show _ = (.int .i64 (nk : Int) : Value) from rfl); have e52 := (ht 52 (by decide)).trans (show _ = (.int .i64 (ne : Int) : Value) from rfl); clear ht ho; simp only [execOp, e46, e52]; go_simp; first | rfl | exact congrArg Value.bool (decide_eq_true (by omega)) | exact congrArg Value.bool (decide_eq_false (by omega)) | (simp; done) | (simp; omega))
                · (refine OpH.rd rfl rfl (fun ρ us w6 ho ht hc hl hsrc hW => ?_); have e40 := (ht 40 (by decide)).trans (show _ = (.bool false : Value) from rfl); have e53 := (ht 53 (by decide)).trans (show _ = (.bool false : Value) from rfl); clear ht ho; simp only [execOp, e40, e53]; go_simp; try rfl)
                · intro us wb hmem hW
                  simp only [putAll, List.map_cons, List.map_nil, List.foldl_cons, List.foldl_nil, Act.put, List.setIfInBounds_toArray, List.set_cons_succ, List.set_cons_zero]
                  generalize hsv : slotAt _ _ us = sv
                  have hq : sv 54 = .bool false := by rw [← hsv]; rfl
                  rw [hq]
                  have HB := Lib.hid (HB.out.trans (hW.1.mono HB.out.size))
                  clear hsv hq hmem hW
                  go_wp2
                  exact ⟨⟨k + 1, by omega, by go_num, by rw [HF.out]; rfl, by rw [HF.out]; rfl, HB⟩, by simp [intOf]; omega⟩
    · obtain rfl : k = n1 := by omega
      go_wp2
      refine bodyPost_ret (v := .tuple #[.int .i64 (fullX x k), .int .i64 (emptyX x k)]) (by simp [results, Try.results89, go_sem, *]; done) rfl ?_
      exact ⟨rfl, HALL.out _ HB.out⟩
end Go.Proofs.Ytjeecdoffoahkaa
namespace Go.Proofs.Ytjeecdoffoahkaa
open Go.RowKit Go.Silo

set_option maxRecDepth 100000 in
set_option maxHeartbeats 4000000 in
theorem refSpread_c {tg : Bool} {S : Nat → Prop} {w : World} {A0 A1 : Option Addr} {n0 c0 n1 c1 : Nat} {x : SlotsD} (hx : SlotsOk x)
    (h0 : Sl tg 4 boolE w S A0 n0 c0 x.live) (h1 : Sl tg 52 (slE tg 3 intE) w S A1 n1 c1 x.free) :
    Calls Try.prog 40 #[.agg #[.slice A0 n0 c0, .slice A1 n1 c1]] w (RetV (.int .i64 (spreadX x)) w) := by
  have HL0 := Lib.hid h0.len
  have HL1 := Lib.hid h1.len
  have hn10 : n1 = n0 := by have := hx.same; have := HL0.out; have := HL1.out; omega
  subst hn10
  have h63 : Hid (∀ d, d < n1 → lenF x d ≤ 64) := Lib.hid (fun d hd => pigeon (hx.free _ (getD_mem (d := []) (by have := HL1.out; omega))))
  have hal : Below w.heap.size w (w.alloc (.cells #[.slice A0 n1 c0, .slice A1 n1 c1] 62)) := (by repeat' (first | (with_reducible exact Below.refl _ _) | (with_reducible refine Below.alloc ?_ ?_ _) | (with_reducible refine Below.drew ?_) | (with_reducible refine below_drewN ?_ _) | (with_reducible refine Below.setCell ?_ ?_ _) | (refine via ?_ (by with_reducible assumption) ?_) | (refine via ?_ (below_ext _ _) ?_) | go_size))
  have HED := Lib.hid (refEdges_c hx (h0.all hal) (h1.all hal))
  have H1 := Lib.hid (h1.all hal)
  have hrow := heap_alloc_new w (.cells #[.slice A0 n1 c0, .slice A1 n1 c1] 62)
  have hz : w.heap.size < (w.alloc (.cells #[.slice A0 n1 c0, .slice A1 n1 c1] 62)).heap.size := by simp
  clear h0 h1 hx
  generalize hv : spreadX x = v at *
  have HV0 := Lib.hid hv; clear hv
  go_enter Try.func40, Try.ntmps40
  go_upto_region 1 with (fail)
  generalize w.alloc (.cells #[.slice A0 n1 c0, .slice A1 n1 c1] 62) = W0 at *
  have ROW := Lib.hid (fun V (hV : Below W0.heap.size W0 V) => (show V.cell? ⟨w.heap.size, 0, none⟩ = some (.slice A0 n1 c0) ∧ V.cell? ⟨w.heap.size, 1, none⟩ = some (.slice A1 n1 c1) from by
    have r := (hV.block _ hz).trans hrow
    exact ⟨cell_of_row V _ 0 _ _ _ r, cell_of_row V _ 1 _ _ _ r⟩))
  have HALL := Lib.hid (fun W (hW : Below W0.heap.size W0 W) => hal.trans (hW.mono (Nat.le_of_lt hz)))
  clear hrow hal
  obtain ⟨y0, y1⟩ := ROW.out W0 (Below.refl _ _)
  go_wp2_with fail
  refine HED.out.mono ?_
  clear HED y0 y1
  rintro r w2 ⟨rfl, hb2⟩
  have HB := Lib.hid hb2; clear hb2
  have hsp : spreadX x = (if (edgesN x x.live.length).2.2 = true then (lenF x (edgesN x x.live.length).2.1 : Int) - lenF x (edgesN x x.live.length).1 else 0) := rfl
  have hlt := edgesN_lt x x.live.length
  unfold fullX emptyX
  rw [HV0.out] at hsp
  rw [HL0.out] at hsp hlt ⊢
  generalize edgesN x n1 = E at *
  obtain ⟨f, e, o⟩ := E
  cases o with
  | false =>
    have HV : Hid (v = 0) := Lib.hid (hsp.trans (if_neg (by simp)))
    clear hsp hlt
    simp only [Bool.false_eq_true, if_false]
    go_wp2
    go_ret
    exact ⟨by rw [HV.out]; rfl, HALL.out _ HB.out⟩
  | true =>
    have hv2 : v = (lenF x e : Int) - lenF x f := hsp.trans (if_pos rfl)
    obtain ⟨hf, he⟩ := hlt rfl
    have hf1 : f < n1 := hf
    have he1 : e < n1 := he
    obtain ⟨b1, o1, Af, nf, cf, rfl, _, hbl1, hk2, qf, _⟩ := H1.out.sl_at hf1
    obtain ⟨b', o', Ae, ne, ce, e', _, _, hk3, qe, _⟩ := H1.out.sl_at he1
    injection e' with e'; injection e' with e1 e2; subst e1 e2
    have hnf : lenF x f = nf := hk2.len
    have hne : lenF x e = ne := hk3.len
    have hf64 := h63.out f hf1
    have he64 := h63.out e he1
    rw [hnf] at hf64 hv2
    rw [hne] at he64 hv2
    have HV := Lib.hid hv2
    have CEL := Lib.hid (fun w6 (hb : Below W0.heap.size W0 w6) => And.intro (ROW.out w6 hb).2 (And.intro ((hb.cell (p := ⟨b1, o1 + f, none⟩) hbl1).trans qf) ((hb.cell (p := ⟨b1, o1 + e, none⟩) hbl1).trans qe)))
    clear hk2 hk3 hnf hne qf qe hsp hv2 hf he h63
    simp only [if_true]
    go_wp2_with fail
    refine region_free (by kernel_rfl) (by kernel_rfl) 25 rfl [12, 13, 14, 15, 16, 17, 18, 19, 20, 21, 22, 23, 24, 2] [] []
      [(12, [], fun _ => (.pointer (some ⟨w.heap.size, 1, none⟩))), (13, [], fun _ => (.slice (some ⟨b1, o1, none⟩) n1 c1)), (14, [], fun _ => .int .i64 (e : Int)), (15, [], fun _ => .pointer (some ⟨b1, o1 + e, none⟩)), (16, [], fun _ => .slice Ae ne ce), (17, [], fun _ => .int .i64 (ne : Int)), (18, [], fun _ => (.pointer (some ⟨w.heap.size, 1, none⟩))), (19, [], fun _ => (.slice (some ⟨b1, o1, none⟩) n1 c1)), (20, [], fun _ => .int .i64 (f : Int)), (21, [], fun _ => .pointer (some ⟨b1, o1 + f, none⟩)), (22, [], fun _ => .slice Af nf cf), (23, [], fun _ => .int .i64 (nf : Int)), (24, [], fun _ => .int .i64 ((ne : Int) - nf)), (2, [], fun _ => .int .i64 ((ne : Int) - nf))]
      [] [] [[], [12], [], [13, 14], [15], [16], [], [18], [], [19, 20], [21], [22], [17, 23], [24]]
      (WdB w2 (fun _ _ _ => True)) (by kernel_rfl) .init ⟨?_, ?_, ?_, ?_, ?_, ?_, ?_, ?_, ?_, ?_, ?_, ?_, ?_, ?_, trivial⟩ ?_
    · (refine OpH.rd rfl rfl (fun ρ us w6 ho ht hc hl hsrc hW => ?_); have e1 := (ho 1 rfl).trans (show _ = ((.pointer (some ⟨w.heap.size, 0, none⟩)) : Value) from rfl); clear ht ho; simp only [execOp, e1]; go_simp; try rfl)
    · (refine OpH.rd rfl rfl (fun ρ us w6 ho ht hc hl hsrc hW => ?_); have e12 := (ht 12 (by decide)).trans (show _ = ((.pointer (some ⟨w.heap.size, 1, none⟩)) : Value) from rfl); obtain ⟨y1, yf, ye⟩ := CEL.out w6 (HB.out.trans (hW.1.mono HB.out.size)); clear ht ho; simp only [execOp, e12]; go_simp; try rfl)
    · (refine OpH.rd rfl rfl (fun ρ us w6 ho ht hc hl hsrc hW => ?_); have e4 := (ho 4 rfl).trans (show _ = (.int .i64 (e : Int) : Value) from rfl); clear ht ho; simp only [execOp, e4]; go_simp; try rfl)
    · (refine OpH.rd rfl rfl (fun ρ us w6 ho ht hc hl hsrc hW => ?_); have e13 := (ht 13 (by decide)).trans (show _ = ((.slice (some ⟨b1, o1, none⟩) n1 c1) : Value) from rfl); have e14 := (ht 14 (by decide)).trans (show _ = (.int .i64 (e : Int) : Value) from rfl); clear ht ho; simp only [execOp, e13, e14]; go_simp; try rfl)
    · (refine OpH.rd rfl rfl (fun ρ us w6 ho ht hc hl hsrc hW => ?_); have e15 := (ht 15 (by decide)).trans (show _ = (.pointer (some ⟨b1, o1 + e, none⟩) : Value) from rfl); obtain ⟨y1, yf, ye⟩ := CEL.out w6 (HB.out.trans (hW.1.mono HB.out.size)); clear ht ho; simp only [execOp, e15]; go_simp; try rfl)
    · (refine OpH.rd rfl rfl (fun ρ us w6 ho ht hc hl hsrc hW => ?_); have e16 := (ht 16 (by decide)).trans (show _ = (.slice Ae ne ce : Value) from rfl); clear ht ho; simp only [execOp]; go_simp; try rfl)
    · (refine OpH.rd rfl rfl (fun ρ us w6 ho ht hc hl hsrc hW => ?_); have e1 := (ho 1 rfl).trans (show _ = ((.pointer (some ⟨w.heap.size, 0, none⟩)) : Value) from rfl); clear ht ho; simp only [execOp, e1]; go_simp; try rfl)
    · (refine OpH.rd rfl rfl (fun ρ us w6 ho ht hc hl hsrc hW => ?_); have e18 := (ht 18 (by decide)).trans (show _ = ((.pointer (some ⟨w.heap.size, 1, none⟩)) : Value) from rfl); obtain ⟨y1, yf, ye⟩ := CEL.out w6 (HB.out.trans (hW.1.mono HB.out.size)); clear ht ho; simp only [execOp, e18]; go_simp; try rfl)
    · (refine OpH.rd rfl rfl (fun ρ us w6 ho ht hc hl hsrc hW => ?_); have e3 := (ho 3 rfl).trans (show _ = (.int .i64 (f : Int) : Value) from rfl); clear ht ho; simp only [execOp, e3]; go_simp; try rfl)
    · (refine OpH.rd rfl rfl (fun ρ us w6 ho ht hc hl hsrc hW => ?_); have e19 := (ht 19 (by decide)).trans (show _ = ((.slice (some ⟨b1, o1, none⟩) n1 c1) : Value) from rfl); have e20 := (ht 20 (by decide)).trans (show _ = (.int .i64 (f : Int) : Value) from rfl); clear ht ho; simp only [execOp, e19, e20]; go_simp; try rfl)
    · (refine OpH.rd rfl rfl (fun ρ us w6 ho ht hc hl hsrc hW => ?_); have e21 := (ht 21 (by decide)).trans (show _ = (.pointer (some ⟨b1, o1 + f, none⟩) : Value) from rfl); obtain ⟨y1, yf, ye⟩ := CEL.out w6 (HB.out.trans (hW.1.mono HB.out.size)); clear ht ho; simp only [execOp, e21]; go_simp; try rfl)
    · (refine OpH.rd rfl rfl (fun ρ us w6 ho ht hc hl hsrc hW => ?_); have e22 := (ht 22 (by decide)).trans (show _ = (.slice Af nf cf : Value) from rfl); clear ht ho; simp only [execOp]; go_simp; try rfl)
    · (refine OpH.rd rfl rfl (fun ρ us w6 ho ht hc hl hsrc hW => ?_); have e17 := (ht 17 (by decide)).trans (show _ = (.int .i64 (ne : Int) : Value) from rfl); have e23 := (ht 23 (by decide)).trans (show _ = (.int .i64 (nf : Int) : Value) from rfl); clear ht ho; simp only [execOp, e17, e23]; go_simp; exact congrArg (Value.int .i64) (Go.IntWalk.i64_in _ (by omega)))
    · (refine OpH.rd rfl rfl (fun ρ us w6 ho ht hc hl hsrc hW => ?_); have e24 := (ht 24 (by decide)).trans (show _ = (.int .i64 ((ne : Int) - nf) : Value) from rfl); clear ht ho; simp only [execOp, e24]; go_simp; try rfl)
    · intro us w9 hmem hW
      simp only [putAll, List.map_cons, List.map_nil, List.foldl_cons, List.foldl_nil, Act.put, List.setIfInBounds_toArray, List.set_cons_succ, List.set_cons_zero]
      generalize hsv : slotAt _ _ us = sv
      have hq : sv 2 = .int .i64 ((ne : Int) - nf) := by rw [← hsv]; rfl
      rw [hq]
      have HB := Lib.hid (HB.out.trans (hW.1.mono HB.out.size))
      clear hsv hq hmem hW
      clear CEL
      go_wp2
      go_ret
      exact ⟨by rw [HV.out]; rfl, HALL.out _ HB.out⟩

def stripesAt (s : Shape) (l : List Stripe) (k : Nat) : Bool := stripeOk s (l.getD k default) && !(decide (0 < k) && decide ((l.getD k default).id ≤ (l.getD (k - 1) default).id))
/-- May they be, by rising IDs? -/
def stripesB (s : Shape) (l : List Stripe) : Bool := (List.range l.length).all (stripesAt s l)
theorem stripesB_true {s : Shape} {l : List Stripe} (h : ∀ j, j < l.length → stripesAt s l j = true) : stripesB s l = true := List.all_eq_true.2 fun i hi => h i (List.mem_range.1 hi)
theorem stripesB_false {s : Shape} {l : List Stripe} {k : Nat} (hk : k < l.length) (h : stripesAt s l k = false) : stripesB s l = false := by
  cases hh : stripesB s l with
  | false => rfl
  | true => have := List.all_eq_true.1 hh k (List.mem_range.2 hk); rw [h] at this; cases this
set_option maxRecDepth 100000 in
set_option maxHeartbeats 8000000 in
theorem refStripes_c {tg tg1 : Bool} {S : Nat → Prop} {w : World} {A : Option Addr} {n c : Nat} {s : Shape} {l : List Stripe} (h : Sl tg 97 (stripeE tg1) w S A n c l) :
    Calls Try.prog 44 #[.agg #[.int .i64 s.K, .int .i64 s.M, .int .i64 s.size], .slice A n c] w (RetV (.bool (stripesB s l && shapeOk s)) w) := by
  have HL := Lib.hid h.len
  have hcap : n ≤ 9223372036854775807 := Nat.le_trans h.le h.cap
  have hal : Below w.heap.size w (w.alloc (.cells #[.int .i64 s.K, .int .i64 s.M, .int .i64 s.size] 23)) := (by repeat' (first | (with_reducible exact Below.refl _ _) | (with_reducible refine Below.alloc ?_ ?_ _) | (with_reducible refine Below.drew ?_) | (with_reducible refine below_drewN ?_ _) | (with_reducible refine Below.setCell ?_ ?_ _) | (refine via ?_ (by with_reducible assumption) ?_) | (refine via ?_ (below_ext _ _) ?_) | go_size))
  have H := Lib.hid (h.all hal)
  have hrow := heap_alloc_new w (.cells #[.int .i64 s.K, .int .i64 s.M, .int .i64 s.size] 23)
  have hz : w.heap.size < (w.alloc (.cells #[.int .i64 s.K, .int .i64 s.M, .int .i64 s.size] 23)).heap.size := by simp
  clear h
  go_enter Try.func44, Try.ntmps44
  go_upto_region 1 with (fail)
  generalize w.alloc (.cells #[.int .i64 s.K, .int .i64 s.M, .int .i64 s.size] 23) = W0 at *
  have ROW := Lib.hid (fun V (hV : Below W0.heap.size W0 V) => (show V.cell? ⟨w.heap.size, 0, none⟩ = some (.int .i64 s.K) ∧ V.cell? ⟨w.heap.size, 1, none⟩ = some (.int .i64 s.M) ∧ V.cell? ⟨w.heap.size, 2, none⟩ = some (.int .i64 s.size) from by
    have r := (hV.block _ hz).trans hrow
    exact ⟨cell_of_row V _ 0 _ _ _ r, cell_of_row V _ 1 _ _ _ r, cell_of_row V _ 2 _ _ _ r⟩))
  have HALL := Lib.hid (fun W (hW : Below W0.heap.size W0 W) => hal.trans (hW.mono (Nat.le_of_lt hz)))
  clear hrow hal
  go_wp2_with fail
  go_loopw [5] (fun i wr => ∃ k : Nat, k ≤ n ∧ i = .int .i64 k ∧ Hid (Below W0.heap.size W0 wr) ∧ Hid (∀ j, j < k → stripesAt s l j = true)) (fun i _ => n - (intOf i).toNat)
  case atStart => exact ⟨0, Nat.zero_le _, rfl, Lib.hid (Below.refl _ _), Lib.hid (fun j hj => by omega)⟩
  case round =>
    obtain ⟨k, hk, rfl, HB, he⟩ := hrel
    by_cases hlt : k < n
    · obtain ⟨b, o, A3, n3, c3, rfl, _, hbl, i1, i2, i3, hpl, z0, z1, z2, z3, _⟩ := H.out.stripe_at hlt
      have hat : stripesAt s l k = (stripeOk s (l.getD k default) && !(decide (0 < k) && decide ((l.getD k default).id ≤ (l.getD (k - 1) default).id))) := rfl
      have hprev : 0 < k → W0.cell? ⟨b, o + (k - 1) * 4, none⟩ = some (.int .i64 (l.getD (k - 1) default).id) := fun h0k => by
        obtain ⟨b', o', _, _, _, e, _, _, _, _, _, _, zz, _⟩ := H.out.stripe_at (show k - 1 < n by omega)
        injection e with e; injection e with e1 e2; subst e1 e2; exact zz
      have HPREV := Lib.hid hprev; clear hprev
      generalize l.getD k default = x at *
      generalize (l.getD (k - 1) default).id = xp at *
      have HAT := Lib.hid hat; clear hat
      have HFF := Lib.hid (fun hf : stripesAt s l k = false => stripesB_false (s := s) (l := l) (by have := HL.out; omega) hf)
      have HNEXT := Lib.hid (fun (hf : stripesAt s l k = true) j (hj : j < k + 1) => (show stripesAt s l j = true from by
        rcases Nat.lt_or_ge j k with hjk | hjk
        · exact he.out j hjk
        · obtain rfl : j = k := by omega
          exact hf))
      have HPL := Lib.hid (fun V (hV : Below W0.heap.size W0 V) => hpl.all hV); clear hpl
      have CEL := Lib.hid (fun w6 (hb : Below W0.heap.size W0 w6) => And.intro (ROW.out w6 hb).1 (And.intro (ROW.out w6 hb).2.1 (And.intro (ROW.out w6 hb).2.2 (And.intro ((hb.cell (p := ⟨b, o + k * 4, none⟩) hbl).trans z0) (And.intro ((hb.cell (p := ⟨b, o + k * 4 + 1, none⟩) hbl).trans z1) (And.intro ((hb.cell (p := ⟨b, o + k * 4 + 2, none⟩) hbl).trans z2) (And.intro ((hb.cell (p := ⟨b, o + k * 4 + 3, none⟩) hbl).trans z3) (fun h0k : 0 < k => (hb.cell (p := ⟨b, o + (k - 1) * 4, none⟩) hbl).trans (HPREV.out h0k)))))))))
      clear z0 z1 z2 z3 i1 i2 i3 he
      cases hok : stripeOk s x with
      | false =>
        have HOK := Lib.hid hok
        have HF : Hid ((stripesB s l && shapeOk s) = false) := Lib.hid (by rw [HFF.out (by rw [HAT.out, hok]; rfl)]; rfl)
        clear hok HNEXT
        go_wp2_with fail
        refine region_free (by kernel_rfl) (by kernel_rfl) 39 rfl [12, 13, 14, 15, 16, 17, 18, 19, 20, 21, 22, 23, 24, 25, 26, 27, 28, 29, 30, 31, 32, 33, 34, 35, 36] [5] [(17, 5)]
          [(12, [], fun _ => .agg #[.int .i64 s.K, .int .i64 s.M, .int .i64 s.size]), (13, [], fun _ => (.slice (some ⟨b, o, none⟩) n c)), (14, [], fun _ => .int .i64 (k : Int)), (15, [], fun _ => .pointer (some ⟨b, o + k * 4, none⟩)), (16, [], fun _ => .agg #[.int .i64 x.id, .int .i64 x.len, .int .i64 x.gen, .slice A3 n3 c3]), (18, [5], fun _ => .bool true), (19, [5], fun _ => .bool true), (20, [], fun _ => undef), (21, [], fun _ => undef), (22, [], fun _ => undef), (23, [], fun _ => undef), (24, [], fun _ => undef), (25, [], fun _ => undef), (26, [], fun _ => undef), (27, [], fun _ => undef), (28, [], fun _ => undef), (29, [], fun _ => undef), (30, [], fun _ => undef), (31, [], fun _ => undef), (32, [], fun _ => undef), (33, [], fun _ => undef), (34, [], fun _ => undef), (35, [], fun _ => undef), (36, [], fun _ => .bool true)]
          [] [] [[], [], [], [13, 14], [15], [12, 16], [17], [18], [19], [20, 19], [21, 19], [22], [22], [24, 22], [23, 25, 22], [26, 22], [27, 22], [22], [22], [29, 30, 22], [31, 22], [32, 22], [28, 33, 22], [22, 34, 19], [19, 35]]
          (WdB wr (fun i v _ => i = 5 → v = .bool false)) (by kernel_rfl) .init ⟨?_, ?_, ?_, ?_, ?_, ?_, ?_, ?_, ?_, ?_, ?_, ?_, ?_, ?_, ?_, ?_, ?_, ?_, ?_, ?_, ?_, ?_, ?_, ?_, ?_, trivial⟩ ?_
        · (refine OpH.rd rfl rfl (fun ρ us w6 ho ht hc hl hsrc hW => ?_); have e2 := (ho 2 rfl).trans (show _ = ((.pointer (some ⟨w.heap.size, 0, none⟩)) : Value) from rfl); obtain ⟨k0, k1, k2, z0, z1, z2, z3, zp⟩ := CEL.out w6 (HB.out.trans (hW.1.mono HB.out.size)); clear ht ho; simp only [execOp, e2]; go_simp; try rfl)
        · (refine OpH.rd rfl rfl (fun ρ us w6 ho ht hc hl hsrc hW => ?_); have e1 := (ho 1 rfl).trans (show _ = ((.slice (some ⟨b, o, none⟩) n c) : Value) from rfl); clear ht ho; simp only [execOp, e1]; go_simp; try rfl)
        · (refine OpH.rd rfl rfl (fun ρ us w6 ho ht hc hl hsrc hW => ?_); have e5 := (ho 5 rfl).trans (show _ = (.int .i64 (k : Int) : Value) from rfl); clear ht ho; simp only [execOp, e5]; go_simp; try rfl)
        · (refine OpH.rd rfl rfl (fun ρ us w6 ho ht hc hl hsrc hW => ?_); have e13 := (ht 13 (by decide)).trans (show _ = ((.slice (some ⟨b, o, none⟩) n c) : Value) from rfl); have e14 := (ht 14 (by decide)).trans (show _ = (.int .i64 (k : Int) : Value) from rfl); clear ht ho; simp only [execOp, e13, e14]; go_simp; try rfl)
        · (refine OpH.rd rfl rfl (fun ρ us w6 ho ht hc hl hsrc hW => ?_); have e15 := (ht 15 (by decide)).trans (show _ = (.pointer (some ⟨b, o + k * 4, none⟩) : Value) from rfl); obtain ⟨k0, k1, k2, z0, z1, z2, z3, zp⟩ := CEL.out w6 (HB.out.trans (hW.1.mono HB.out.size)); clear ht ho; simp only [execOp, e15]; go_simp; try rfl)
        · refine OpH.wr rfl (fun Z us w6 ho ht hni hlim hreq hW K hK => ?_)
          have e12 := (ht 12 (by decide)).trans (show _ = (.agg #[.int .i64 s.K, .int .i64 s.M, .int .i64 s.size] : Value) from rfl)
          have e16 := (ht 16 (by decide)).trans (show _ = (.agg #[.int .i64 x.id, .int .i64 x.len, .int .i64 x.gen, .slice A3 n3 c3] : Value) from rfl)
          have hcl := refStripe_c (w := w6) (s := s) (x := x) (HPL.out w6 (HB.out.trans (hW.1.mono HB.out.size)))
          rw [HOK.out] at hcl
          refine step_call rfl 49 #[.tmp 12, .tmp 16] #[23, 97] rfl Try.func49 (by kernel_rfl) (by kernel_rfl) #[.agg #[.int .i64 s.K, .int .i64 s.M, .int .i64 s.size], .agg #[.int .i64 x.id, .int .i64 x.len, .int .i64 x.gen, .slice A3 n3 c3]] (by simp [e12, e16]) (hcl) ?_
          rintro e w7 ⟨rfl, hb7⟩
          exact ⟨_, rfl, hK _ _ (hW.snoc hb7 (fun j v h => h) (fun _ => rfl))⟩
        · (refine OpH.rd rfl rfl (fun ρ us w6 ho ht hc hl hsrc hW => ?_); have e17 := (ht 17 (by decide)).trans (show _ = ((us.lookup 5).getD undef : Value) from rfl); rw [hW.at_ (hsrc 5 (by exact (List.mem_singleton.2 rfl : (5 : Nat) ∈ [5]))) rfl] at e17; clear ht ho; simp only [execOp, e17]; go_simp; try rfl)
        · (refine OpH.rd rfl rfl (fun ρ us w6 ho ht hc hl hsrc hW => ?_); have e18 := (ht 18 (by decide)).trans (show _ = (.bool true : Value) from rfl); clear ht ho; simp only [execOp, e18]; go_simp; try rfl)
        · (exact OpH.rdn rfl 7 19 false rfl rfl (by decide) (fun _ _ _ => rfl) (fun _ => rfl))
        · (exact OpH.rdn rfl 7 19 false rfl rfl (by decide) (fun _ _ _ => rfl) (fun _ => rfl))
        · (exact OpH.rdn rfl 7 19 false rfl rfl (by decide) (fun _ _ _ => rfl) (fun _ => rfl))
        · (exact OpH.rdu rfl 10 22 true rfl rfl (by decide) (fun _ _ _ => rfl) (fun _ => rfl))
        · (exact OpH.rdu rfl 10 22 true rfl rfl (by decide) (fun _ _ _ => rfl) (fun _ => rfl))
        · (exact OpH.rdu rfl 10 22 true rfl rfl (by decide) (fun _ _ _ => rfl) (fun _ => rfl))
        · (exact OpH.rdu rfl 10 22 true rfl rfl (by decide) (fun _ _ _ => rfl) (fun _ => rfl))
        · (exact OpH.rdu rfl 10 22 true rfl rfl (by decide) (fun _ _ _ => rfl) (fun _ => rfl))
        · (exact OpH.rdu rfl 10 22 true rfl rfl (by decide) (fun _ _ _ => rfl) (fun _ => rfl))
        · (exact OpH.rdu rfl 10 22 true rfl rfl (by decide) (fun _ _ _ => rfl) (fun _ => rfl))
        · (exact OpH.rdu rfl 10 22 true rfl rfl (by decide) (fun _ _ _ => rfl) (fun _ => rfl))
        · (exact OpH.rdu rfl 10 22 true rfl rfl (by decide) (fun _ _ _ => rfl) (fun _ => rfl))
        · (exact OpH.rdu rfl 10 22 true rfl rfl (by decide) (fun _ _ _ => rfl) (fun _ => rfl))
        · (exact OpH.rdu rfl 10 22 true rfl rfl (by decide) (fun _ _ _ => rfl) (fun _ => rfl))
        · (exact OpH.rdu rfl 10 22 true rfl rfl (by decide) (fun _ _ _ => rfl) (fun _ => rfl))
        · (exact OpH.rdn rfl 7 19 false rfl rfl (by decide) (fun _ _ _ => rfl) (fun _ => rfl))
        · (refine OpH.rd rfl rfl (fun ρ us w6 ho ht hc hl hsrc hW => ?_); have e19 := (ht 19 (by decide)).trans (show _ = (.bool true : Value) from rfl); have e35 := (ht 35 (by decide)).trans (show _ = (undef : Value) from rfl); clear ht ho; simp only [execOp, e19, e35]; go_simp; try rfl)
        · intro us w9 hmem hW
          simp only [putAll, List.map_cons, List.map_nil, List.foldl_cons, List.foldl_nil, Act.put, List.setIfInBounds_toArray, List.set_cons_succ, List.set_cons_zero]
          generalize hsv : slotAt _ _ us = sv
          have hq : sv 36 = .bool true := by rw [← hsv]; rfl
          rw [hq]
          have HB := Lib.hid (HB.out.trans (hW.1.mono HB.out.size))
          clear hsv hq hmem hW
          clear CEL HPL
          go_wp2
          go_ret
          exact ⟨by rw [HF.out]; rfl, HALL.out _ HB.out⟩
      | true =>
        have HOK := Lib.hid hok
        by_cases hk0 : 0 < k
        · have hk1 : k - 1 < n := by omega
          by_cases hle : x.id ≤ xp
          · have HF : Hid ((stripesB s l && shapeOk s) = false) := Lib.hid (by rw [HFF.out (by rw [HAT.out, hok, decide_eq_true hk0, decide_eq_true hle]; rfl)]; rfl)
            clear hok HNEXT
            go_wp2_with fail
            refine region_free (by kernel_rfl) (by kernel_rfl) 39 rfl [12, 13, 14, 15, 16, 17, 18, 19, 20, 21, 22, 23, 24, 25, 26, 27, 28, 29, 30, 31, 32, 33, 34, 35, 36] [5] [(17, 5)]
              [(12, [], fun _ => .agg #[.int .i64 s.K, .int .i64 s.M, .int .i64 s.size]), (13, [], fun _ => (.slice (some ⟨b, o, none⟩) n c)), (14, [], fun _ => .int .i64 (k : Int)), (15, [], fun _ => .pointer (some ⟨b, o + k * 4, none⟩)), (16, [], fun _ => .agg #[.int .i64 x.id, .int .i64 x.len, .int .i64 x.gen, .slice A3 n3 c3]), (18, [5], fun _ => .bool false), (19, [5], fun _ => .bool false), (20, [], fun _ => .int .i64 (k : Int)), (21, [], fun _ => .bool true), (22, [], fun _ => .bool true), (23, [], fun _ => (.slice (some ⟨b, o, none⟩) n c)), (24, [], fun _ => .int .i64 (k : Int)), (25, [], fun _ => .int .i64 ((k - 1 : Nat) : Int)), (26, [], fun _ => .pointer (some ⟨b, o + (k - 1) * 4, none⟩)), (27, [], fun _ => .pointer (some ⟨b, o + (k - 1) * 4, none⟩)), (28, [], fun _ => .int .i64 xp), (29, [], fun _ => (.slice (some ⟨b, o, none⟩) n c)), (30, [], fun _ => .int .i64 (k : Int)), (31, [], fun _ => .pointer (some ⟨b, o + k * 4, none⟩)), (32, [], fun _ => .pointer (some ⟨b, o + k * 4, none⟩)), (33, [], fun _ => .int .i64 x.id), (34, [], fun _ => .bool true), (35, [], fun _ => .bool true), (36, [], fun _ => .bool true)]
              [] [] [[], [], [], [13, 14], [15], [12, 16], [17], [18], [19], [20, 19], [21, 19], [22], [22], [24, 22], [23, 25, 22], [26, 22], [27, 22], [22], [22], [29, 30, 22], [31, 22], [32, 22], [28, 33, 22], [22, 34, 19], [19, 35]]
              (WdB wr (fun i v _ => i = 5 → v = .bool true)) (by kernel_rfl) .init ⟨?_, ?_, ?_, ?_, ?_, ?_, ?_, ?_, ?_, ?_, ?_, ?_, ?_, ?_, ?_, ?_, ?_, ?_, ?_, ?_, ?_, ?_, ?_, ?_, ?_, trivial⟩ ?_
            · (refine OpH.rd rfl rfl (fun ρ us w6 ho ht hc hl hsrc hW => ?_); have e2 := (ho 2 rfl).trans (show _ = ((.pointer (some ⟨w.heap.size, 0, none⟩)) : Value) from rfl); obtain ⟨k0, k1, k2, z0, z1, z2, z3, zp⟩ := CEL.out w6 (HB.out.trans (hW.1.mono HB.out.size)); clear ht ho; simp only [execOp, e2]; go_simp; try rfl)
            · (refine OpH.rd rfl rfl (fun ρ us w6 ho ht hc hl hsrc hW => ?_); have e1 := (ho 1 rfl).trans (show _ = ((.slice (some ⟨b, o, none⟩) n c) : Value) from rfl); clear ht ho; simp only [execOp, e1]; go_simp; try rfl)
            · (refine OpH.rd rfl rfl (fun ρ us w6 ho ht hc hl hsrc hW => ?_); have e5 := (ho 5 rfl).trans (show _ = (.int .i64 (k : Int) : Value) from rfl); clear ht ho; simp only [execOp, e5]; go_simp; try rfl)
            · (refine OpH.rd rfl rfl (fun ρ us w6 ho ht hc hl hsrc hW => ?_); have e13 := (ht 13 (by decide)).trans (show _ = ((.slice (some ⟨b, o, none⟩) n c) : Value) from rfl); have e14 := (ht 14 (by decide)).trans (show _ = (.int .i64 (k : Int) : Value) from rfl); clear ht ho; simp only [execOp, e13, e14]; go_simp; try rfl)
            · (refine OpH.rd rfl rfl (fun ρ us w6 ho ht hc hl hsrc hW => ?_); have e15 := (ht 15 (by decide)).trans (show _ = (.pointer (some ⟨b, o + k * 4, none⟩) : Value) from rfl); obtain ⟨k0, k1, k2, z0, z1, z2, z3, zp⟩ := CEL.out w6 (HB.out.trans (hW.1.mono HB.out.size)); clear ht ho; simp only [execOp, e15]; go_simp; try rfl)
            · refine OpH.wr rfl (fun Z us w6 ho ht hni hlim hreq hW K hK => ?_)
              have e12 := (ht 12 (by decide)).trans (show _ = (.agg #[.int .i64 s.K, .int .i64 s.M, .int .i64 s.size] : Value) from rfl)
              have e16 := (ht 16 (by decide)).trans (show _ = (.agg #[.int .i64 x.id, .int .i64 x.len, .int .i64 x.gen, .slice A3 n3 c3] : Value) from rfl)
              have hcl := refStripe_c (w := w6) (s := s) (x := x) (HPL.out w6 (HB.out.trans (hW.1.mono HB.out.size)))
              rw [HOK.out] at hcl
              refine step_call rfl 49 #[.tmp 12, .tmp 16] #[23, 97] rfl Try.func49 (by kernel_rfl) (by kernel_rfl) #[.agg #[.int .i64 s.K, .int .i64 s.M, .int .i64 s.size], .agg #[.int .i64 x.id, .int .i64 x.len, .int .i64 x.gen, .slice A3 n3 c3]] (by simp [e12, e16]) (hcl) ?_
              rintro e w7 ⟨rfl, hb7⟩
              exact ⟨_, rfl, hK _ _ (hW.snoc hb7 (fun j v h => h) (fun _ => rfl))⟩
            · (refine OpH.rd rfl rfl (fun ρ us w6 ho ht hc hl hsrc hW => ?_); have e17 := (ht 17 (by decide)).trans (show _ = ((us.lookup 5).getD undef : Value) from rfl); rw [hW.at_ (hsrc 5 (by exact (List.mem_singleton.2 rfl : (5 : Nat) ∈ [5]))) rfl] at e17; clear ht ho; simp only [execOp, e17]; go_simp; try rfl)
            · (refine OpH.rd rfl rfl (fun ρ us w6 ho ht hc hl hsrc hW => ?_); have e18 := (ht 18 (by decide)).trans (show _ = (.bool false : Value) from rfl); clear ht ho; simp only [execOp, e18]; go_simp; try rfl)
            · (refine OpH.rdg rfl 7 19 false rfl rfl (by decide) (fun _ _ _ => rfl) (fun ρ us w6 ho ht hc hl hsrc hW => ?_); have e5 := (ho 5 rfl).trans (show _ = (.int .i64 (k : Int) : Value) from rfl); clear ht ho; simp only [execOp, e5]; go_simp; try rfl)
            · (refine OpH.rdg rfl 7 19 false rfl rfl (by decide) (fun _ _ _ => rfl) (fun ρ us w6 ho ht hc hl hsrc hW => ?_); have e20 := (ht 20 (by decide)).trans (show _ = (.int .i64 (k : Int) : Value) from rfl); clear ht ho; simp only [execOp, e20]; go_simp; first | rfl | exact congrArg Value.bool (decide_eq_true (by omega)) | exact congrArg Value.bool (decide_eq_false (by omega)) | (simp; done) | (simp; omega))
            · (refine OpH.rdg rfl 7 19 false rfl rfl (by decide) (fun _ _ _ => rfl) (fun ρ us w6 ho ht hc hl hsrc hW => ?_); have e21 := (ht 21 (by decide)).trans (show _ = (.bool true : Value) from rfl); clear ht ho; simp only [execOp, e21]; go_simp; try rfl)
            · (refine OpH.rdg rfl 10 22 true rfl rfl (by decide) (fun _ _ _ => rfl) (fun ρ us w6 ho ht hc hl hsrc hW => ?_); have e1 := (ho 1 rfl).trans (show _ = ((.slice (some ⟨b, o, none⟩) n c) : Value) from rfl); clear ht ho; simp only [execOp, e1]; go_simp; try rfl)
            · (refine OpH.rdg rfl 10 22 true rfl rfl (by decide) (fun _ _ _ => rfl) (fun ρ us w6 ho ht hc hl hsrc hW => ?_); have e5 := (ho 5 rfl).trans (show _ = (.int .i64 (k : Int) : Value) from rfl); clear ht ho; simp only [execOp, e5]; go_simp; try rfl)
            · (refine OpH.rdg rfl 10 22 true rfl rfl (by decide) (fun _ _ _ => rfl) (fun ρ us w6 ho ht hc hl hsrc hW => ?_); have e24 := (ht 24 (by decide)).trans (show _ = (.int .i64 (k : Int) : Value) from rfl); clear ht ho; simp only [execOp, e24]; go_simp; exact (congrArg (Value.int .i64) (Go.IntWalk.i64_in _ (by omega))).trans (congrArg (Value.int .i64) (by omega)))
            · (refine OpH.rdg rfl 10 22 true rfl rfl (by decide) (fun _ _ _ => rfl) (fun ρ us w6 ho ht hc hl hsrc hW => ?_); have e23 := (ht 23 (by decide)).trans (show _ = ((.slice (some ⟨b, o, none⟩) n c) : Value) from rfl); have e25 := (ht 25 (by decide)).trans (show _ = (.int .i64 ((k - 1 : Nat) : Int) : Value) from rfl); clear ht ho; simp only [execOp, e23, e25]; go_simp; try rfl)
            · (refine OpH.rdg rfl 10 22 true rfl rfl (by decide) (fun _ _ _ => rfl) (fun ρ us w6 ho ht hc hl hsrc hW => ?_); have e26 := (ht 26 (by decide)).trans (show _ = (.pointer (some ⟨b, o + (k - 1) * 4, none⟩) : Value) from rfl); clear ht ho; simp only [execOp, e26]; go_simp; try rfl)
            · (refine OpH.rdg rfl 10 22 true rfl rfl (by decide) (fun _ _ _ => rfl) (fun ρ us w6 ho ht hc hl hsrc hW => ?_); have e27 := (ht 27 (by decide)).trans (show _ = (.pointer (some ⟨b, o + (k - 1) * 4, none⟩) : Value) from rfl); obtain ⟨k0, k1, k2, z0, z1, z2, z3, zp⟩ := CEL.out w6 (HB.out.trans (hW.1.mono HB.out.size)); clear ht ho; simp only [execOp, e27]; go_simp; try rfl)
            · (refine OpH.rdg rfl 10 22 true rfl rfl (by decide) (fun _ _ _ => rfl) (fun ρ us w6 ho ht hc hl hsrc hW => ?_); have e1 := (ho 1 rfl).trans (show _ = ((.slice (some ⟨b, o, none⟩) n c) : Value) from rfl); clear ht ho; simp only [execOp, e1]; go_simp; try rfl)
            · (refine OpH.rdg rfl 10 22 true rfl rfl (by decide) (fun _ _ _ => rfl) (fun ρ us w6 ho ht hc hl hsrc hW => ?_); have e5 := (ho 5 rfl).trans (show _ = (.int .i64 (k : Int) : Value) from rfl); clear ht ho; simp only [execOp, e5]; go_simp; try rfl)
            · (refine OpH.rdg rfl 10 22 true rfl rfl (by decide) (fun _ _ _ => rfl) (fun ρ us w6 ho ht hc hl hsrc hW => ?_); have e29 := (ht 29 (by decide)).trans (show _ = ((.slice (some ⟨b, o, none⟩) n c) : Value) from rfl); have e30 := (ht 30 (by decide)).trans (show _ = (.int .i64 (k : Int) : Value) from rfl); clear ht ho; simp only [execOp, e29, e30]; go_simp; try rfl)
            · (refine OpH.rdg rfl 10 22 true rfl rfl (by decide) (fun _ _ _ => rfl) (fun ρ us w6 ho ht hc hl hsrc hW => ?_); have e31 := (ht 31 (by decide)).trans (show _ = (.pointer (some ⟨b, o + k * 4, none⟩) : Value) from rfl); clear ht ho; simp only [execOp, e31]; go_simp; try rfl)
            · (refine OpH.rdg rfl 10 22 true rfl rfl (by decide) (fun _ _ _ => rfl) (fun ρ us w6 ho ht hc hl hsrc hW => ?_); have e32 := (ht 32 (by decide)).trans (show _ = (.pointer (some ⟨b, o + k * 4, none⟩) : Value) from rfl); obtain ⟨k0, k1, k2, z0, z1, z2, z3, zp⟩ := CEL.out w6 (HB.out.trans (hW.1.mono HB.out.size)); clear ht ho; simp only [execOp, e32]; go_simp; try rfl)
            · (refine OpH.rdg rfl 10 22 true rfl rfl (by decide) (fun _ _ _ => rfl) (fun ρ us w6 ho ht hc hl hsrc hW => ?_); have e28 := (ht 28 (by decide)).trans (show _ = (.int .i64 xp : Value) from rfl); have e33 := (ht 33 (by decide)).trans (show _ = (.int .i64 x.id : Value) from rfl); clear ht ho; simp only [execOp, e28, e33]; go_simp; first | rfl | exact congrArg Value.bool (decide_eq_true (by omega)) | exact congrArg Value.bool (decide_eq_false (by omega)) | (simp; done) | (simp; omega))
            · (refine OpH.rdg rfl 7 19 false rfl rfl (by decide) (fun _ _ _ => rfl) (fun ρ us w6 ho ht hc hl hsrc hW => ?_); have e22 := (ht 22 (by decide)).trans (show _ = (.bool true : Value) from rfl); have e34 := (ht 34 (by decide)).trans (show _ = (.bool true : Value) from rfl); clear ht ho; simp only [execOp, e22, e34]; go_simp; try rfl)
            · (refine OpH.rd rfl rfl (fun ρ us w6 ho ht hc hl hsrc hW => ?_); have e19 := (ht 19 (by decide)).trans (show _ = (.bool false : Value) from rfl); have e35 := (ht 35 (by decide)).trans (show _ = (.bool true : Value) from rfl); clear ht ho; simp only [execOp, e19, e35]; go_simp; try rfl)
            · intro us w9 hmem hW
              simp only [putAll, List.map_cons, List.map_nil, List.foldl_cons, List.foldl_nil, Act.put, List.setIfInBounds_toArray, List.set_cons_succ, List.set_cons_zero]
              generalize hsv : slotAt _ _ us = sv
              have hq : sv 36 = .bool true := by rw [← hsv]; rfl
              rw [hq]
              have HB := Lib.hid (HB.out.trans (hW.1.mono HB.out.size))
              clear hsv hq hmem hW
              clear CEL HPL
              go_wp2
              go_ret
              exact ⟨by rw [HF.out]; rfl, HALL.out _ HB.out⟩
          · have HF := Lib.hid (HNEXT.out (by rw [HAT.out, hok, decide_eq_true hk0, decide_eq_false hle]; rfl))
            clear hok HNEXT
            go_wp2_with fail
            refine region_free (by kernel_rfl) (by kernel_rfl) 39 rfl [12, 13, 14, 15, 16, 17, 18, 19, 20, 21, 22, 23, 24, 25, 26, 27, 28, 29, 30, 31, 32, 33, 34, 35, 36] [5] [(17, 5)]
              [(12, [], fun _ => .agg #[.int .i64 s.K, .int .i64 s.M, .int .i64 s.size]), (13, [], fun _ => (.slice (some ⟨b, o, none⟩) n c)), (14, [], fun _ => .int .i64 (k : Int)), (15, [], fun _ => .pointer (some ⟨b, o + k * 4, none⟩)), (16, [], fun _ => .agg #[.int .i64 x.id, .int .i64 x.len, .int .i64 x.gen, .slice A3 n3 c3]), (18, [5], fun _ => .bool false), (19, [5], fun _ => .bool false), (20, [], fun _ => .int .i64 (k : Int)), (21, [], fun _ => .bool true), (22, [], fun _ => .bool true), (23, [], fun _ => (.slice (some ⟨b, o, none⟩) n c)), (24, [], fun _ => .int .i64 (k : Int)), (25, [], fun _ => .int .i64 ((k - 1 : Nat) : Int)), (26, [], fun _ => .pointer (some ⟨b, o + (k - 1) * 4, none⟩)), (27, [], fun _ => .pointer (some ⟨b, o + (k - 1) * 4, none⟩)), (28, [], fun _ => .int .i64 xp), (29, [], fun _ => (.slice (some ⟨b, o, none⟩) n c)), (30, [], fun _ => .int .i64 (k : Int)), (31, [], fun _ => .pointer (some ⟨b, o + k * 4, none⟩)), (32, [], fun _ => .pointer (some ⟨b, o + k * 4, none⟩)), (33, [], fun _ => .int .i64 x.id), (34, [], fun _ => .bool false), (35, [], fun _ => .bool false), (36, [], fun _ => .bool false)]
              [] [] [[], [], [], [13, 14], [15], [12, 16], [17], [18], [19], [20, 19], [21, 19], [22], [22], [24, 22], [23, 25, 22], [26, 22], [27, 22], [22], [22], [29, 30, 22], [31, 22], [32, 22], [28, 33, 22], [22, 34, 19], [19, 35]]
              (WdB wr (fun i v _ => i = 5 → v = .bool true)) (by kernel_rfl) .init ⟨?_, ?_, ?_, ?_, ?_, ?_, ?_, ?_, ?_, ?_, ?_, ?_, ?_, ?_, ?_, ?_, ?_, ?_, ?_, ?_, ?_, ?_, ?_, ?_, ?_, trivial⟩ ?_
            · (refine OpH.rd rfl rfl (fun ρ us w6 ho ht hc hl hsrc hW => ?_); have e2 := (ho 2 rfl).trans (show _ = ((.pointer (some ⟨w.heap.size, 0, none⟩)) : Value) from rfl); obtain ⟨k0, k1, k2, z0, z1, z2, z3, zp⟩ := CEL.out w6 (HB.out.trans (hW.1.mono HB.out.size)); clear ht ho; simp only [execOp, e2]; go_simp; try rfl)
            · (refine OpH.rd rfl rfl (fun ρ us w6 ho ht hc hl hsrc hW => ?_); have e1 := (ho 1 rfl).trans (show _ = ((.slice (some ⟨b, o, none⟩) n c) : Value) from rfl); clear ht ho; simp only [execOp, e1]; go_simp; try rfl)
            · (refine OpH.rd rfl rfl (fun ρ us w6 ho ht hc hl hsrc hW => ?_); have e5 := (ho 5 rfl).trans (show _ = (.int .i64 (k : Int) : Value) from rfl); clear ht ho; simp only [execOp, e5]; go_simp; try rfl)
            · (refine OpH.rd rfl rfl (fun ρ us w6 ho ht hc hl hsrc hW => ?_); have e13 := (ht 13 (by decide)).trans (show _ = ((.slice (some ⟨b, o, none⟩) n c) : Value) from rfl); have e14 := (ht 14 (by decide)).trans (show _ = (.int .i64 (k : Int) : Value) from rfl); clear ht ho; simp only [execOp, e13, e14]; go_simp; try rfl)
            · (refine OpH.rd rfl rfl (fun ρ us w6 ho ht hc hl hsrc hW => ?_); have e15 := (ht 15 (by decide)).trans (show _ = (.pointer (some ⟨b, o + k * 4, none⟩) : Value) from rfl); obtain ⟨k0, k1, k2, z0, z1, z2, z3, zp⟩ := CEL.out w6 (HB.out.trans (hW.1.mono HB.out.size)); clear ht ho; simp only [execOp, e15]; go_simp; try rfl)
            · refine OpH.wr rfl (fun Z us w6 ho ht hni hlim hreq hW K hK => ?_)
              have e12 := (ht 12 (by decide)).trans (show _ = (.agg #[.int .i64 s.K, .int .i64 s.M, .int .i64 s.size] : Value) from rfl)
              have e16 := (ht 16 (by decide)).trans (show _ = (.agg #[.int .i64 x.id, .int .i64 x.len, .int .i64 x.gen, .slice A3 n3 c3] : Value) from rfl)
              have hcl := refStripe_c (w := w6) (s := s) (x := x) (HPL.out w6 (HB.out.trans (hW.1.mono HB.out.size)))
              rw [HOK.out] at hcl
              refine step_call rfl 49 #[.tmp 12, .tmp 16] #[23, 97] rfl Try.func49 (by kernel_rfl) (by kernel_rfl) #[.agg #[.int .i64 s.K, .int .i64 s.M, .int .i64 s.size], .agg #[.int .i64 x.id, .int .i64 x.len, .int .i64 x.gen, .slice A3 n3 c3]] (by simp [e12, e16]) (hcl) ?_
              rintro e w7 ⟨rfl, hb7⟩
              exact ⟨_, rfl, hK _ _ (hW.snoc hb7 (fun j v h => h) (fun _ => rfl))⟩
            · (refine OpH.rd rfl rfl (fun ρ us w6 ho ht hc hl hsrc hW => ?_); have e17 := (ht 17 (by decide)).trans (show _ = ((us.lookup 5).getD undef : Value) from rfl); rw [hW.at_ (hsrc 5 (by exact (List.mem_singleton.2 rfl : (5 : Nat) ∈ [5]))) rfl] at e17; clear ht ho; simp only [execOp, e17]; go_simp; try rfl)
            · (refine OpH.rd rfl rfl (fun ρ us w6 ho ht hc hl hsrc hW => ?_); have e18 := (ht 18 (by decide)).trans (show _ = (.bool false : Value) from rfl); clear ht ho; simp only [execOp, e18]; go_simp; try rfl)
            · (refine OpH.rdg rfl 7 19 false rfl rfl (by decide) (fun _ _ _ => rfl) (fun ρ us w6 ho ht hc hl hsrc hW => ?_); have e5 := (ho 5 rfl).trans (show _ = (.int .i64 (k : Int) : Value) from rfl); clear ht ho; simp only [execOp, e5]; go_simp; try rfl)
            · (refine OpH.rdg rfl 7 19 false rfl rfl (by decide) (fun _ _ _ => rfl) (fun ρ us w6 ho ht hc hl hsrc hW => ?_); have e20 := (ht 20 (by decide)).trans (show _ = (.int .i64 (k : Int) : Value) from rfl); clear ht ho; simp only [execOp, e20]; go_simp; first | rfl | exact congrArg Value.bool (decide_eq_true (by omega)) | exact congrArg Value.bool (decide_eq_false (by omega)) | (simp; done) | (simp; omega))
            · (refine OpH.rdg rfl 7 19 false rfl rfl (by decide) (fun _ _ _ => rfl) (fun ρ us w6 ho ht hc hl hsrc hW => ?_); have e21 := (ht 21 (by decide)).trans (show _ = (.bool true : Value) from rfl); clear ht ho; simp only [execOp, e21]; go_simp; try rfl)
            · (refine OpH.rdg rfl 10 22 true rfl rfl (by decide) (fun _ _ _ => rfl) (fun ρ us w6 ho ht hc hl hsrc hW => ?_); have e1 := (ho 1 rfl).trans (show _ = ((.slice (some ⟨b, o, none⟩) n c) : Value) from rfl); clear ht ho; simp only [execOp, e1]; go_simp; try rfl)
            · (refine OpH.rdg rfl 10 22 true rfl rfl (by decide) (fun _ _ _ => rfl) (fun ρ us w6 ho ht hc hl hsrc hW => ?_); have e5 := (ho 5 rfl).trans (show _ = (.int .i64 (k : Int) : Value) from rfl); clear ht ho; simp only [execOp, e5]; go_simp; try rfl)
            · (refine OpH.rdg rfl 10 22 true rfl rfl (by decide) (fun _ _ _ => rfl) (fun ρ us w6 ho ht hc hl hsrc hW => ?_); have e24 := (ht 24 (by decide)).trans (show _ = (.int .i64 (k : Int) : Value) from rfl); clear ht ho; simp only [execOp, e24]; go_simp; exact (congrArg (Value.int .i64) (Go.IntWalk.i64_in _ (by omega))).trans (congrArg (Value.int .i64) (by omega)))
            · (refine OpH.rdg rfl 10 22 true rfl rfl (by decide) (fun _ _ _ => rfl) (fun ρ us w6 ho ht hc hl hsrc hW => ?_); have e23 := (ht 23 (by decide)).trans (show _ = ((.slice (some ⟨b, o, none⟩) n c) : Value) from rfl); have e25 := (ht 25 (by decide)).trans (show _ = (.int .i64 ((k - 1 : Nat) : Int) : Value) from rfl); clear ht ho; simp only [execOp, e23, e25]; go_simp; try rfl)
            · (refine OpH.rdg rfl 10 22 true rfl rfl (by decide) (fun _ _ _ => rfl) (fun ρ us w6 ho ht hc hl hsrc hW => ?_); have e26 := (ht 26 (by decide)).trans (show _ = (.pointer (some ⟨b, o + (k - 1) * 4, none⟩) : Value) from rfl); clear ht ho; simp only [execOp, e26]; go_simp; try rfl)
            · (refine OpH.rdg rfl 10 22 true rfl rfl (by decide) (fun _ _ _ => rfl) (fun ρ us w6 ho ht hc hl hsrc hW => ?_); have e27 := (ht 27 (by decide)).trans (show _ = (.pointer (some ⟨b, o + (k - 1) * 4, none⟩) : Value) from rfl); obtain ⟨k0, k1, k2, z0, z1, z2, z3, zp⟩ := CEL.out w6 (HB.out.trans (hW.1.mono HB.out.size)); clear ht ho; simp only [execOp, e27]; go_simp; try rfl)
            · (refine OpH.rdg rfl 10 22 true rfl rfl (by decide) (fun _ _ _ => rfl) (fun ρ us w6 ho ht hc hl hsrc hW => ?_); have e1 := (ho 1 rfl).trans (show _ = ((.slice (some ⟨b, o, none⟩) n c) : Value) from rfl); clear ht ho; simp only [execOp, e1]; go_simp; try rfl)
            · (refine OpH.rdg rfl 10 22 true rfl rfl (by decide) (fun _ _ _ => rfl) (fun ρ us w6 ho ht hc hl hsrc hW => ?_); have e5 := (ho 5 rfl).trans (show _ = (.int .i64 (k : Int) : Value) from rfl); clear ht ho; simp only [execOp, e5]; go_simp; try rfl)
            · (refine OpH.rdg rfl 10 22 true rfl rfl (by decide) (fun _ _ _ => rfl) (fun ρ us w6 ho ht hc hl hsrc hW => ?_); have e29 := (ht 29 (by decide)).trans (show _ = ((.slice (some ⟨b, o, none⟩) n c) : Value) from rfl); have e30 := (ht 30 (by decide)).trans (show _ = (.int .i64 (k : Int) : Value) from rfl); clear ht ho; simp only [execOp, e29, e30]; go_simp; try rfl)
            · (refine OpH.rdg rfl 10 22 true rfl rfl (by decide) (fun _ _ _ => rfl) (fun ρ us w6 ho ht hc hl hsrc hW => ?_); have e31 := (ht 31 (by decide)).trans (show _ = (.pointer (some ⟨b, o + k * 4, none⟩) : Value) from rfl); clear ht ho; simp only [execOp, e31]; go_simp; try rfl)
            · (refine OpH.rdg rfl 10 22 true rfl rfl (by decide) (fun _ _ _ => rfl) (fun ρ us w6 ho ht hc hl hsrc hW => ?_); have e32 := (ht 32 (by decide)).trans (show _ = (.pointer (some ⟨b, o + k * 4, none⟩) : Value) from rfl); obtain ⟨k0, k1, k2, z0, z1, z2, z3, zp⟩ := CEL.out w6 (HB.out.trans (hW.1.mono HB.out.size)); clear ht ho; simp only [execOp, e32]; go_simp; try rfl)
            · (refine OpH.rdg rfl 10 22 true rfl rfl (by decide) (fun _ _ _ => rfl) (fun ρ us w6 ho ht hc hl hsrc hW => ?_); have e28 := (ht 28 (by decide)).trans (show _ = (.int .i64 xp : Value) from rfl); have e33 := (ht 33 (by decide)).trans (show _ = (.int .i64 x.id : Value) from rfl); clear ht ho; simp only [execOp, e28, e33]; go_simp; first | rfl | exact congrArg Value.bool (decide_eq_true (by omega)) | exact congrArg Value.bool (decide_eq_false (by omega)) | (simp; done) | (simp; omega))
            · (refine OpH.rdg rfl 7 19 false rfl rfl (by decide) (fun _ _ _ => rfl) (fun ρ us w6 ho ht hc hl hsrc hW => ?_); have e22 := (ht 22 (by decide)).trans (show _ = (.bool true : Value) from rfl); have e34 := (ht 34 (by decide)).trans (show _ = (.bool false : Value) from rfl); clear ht ho; simp only [execOp, e22, e34]; go_simp; try rfl)
            · (refine OpH.rd rfl rfl (fun ρ us w6 ho ht hc hl hsrc hW => ?_); have e19 := (ht 19 (by decide)).trans (show _ = (.bool false : Value) from rfl); have e35 := (ht 35 (by decide)).trans (show _ = (.bool false : Value) from rfl); clear ht ho; simp only [execOp, e19, e35]; go_simp; try rfl)
            · intro us w9 hmem hW
              simp only [putAll, List.map_cons, List.map_nil, List.foldl_cons, List.foldl_nil, Act.put, List.setIfInBounds_toArray, List.set_cons_succ, List.set_cons_zero]
              generalize hsv : slotAt _ _ us = sv
              have hq : sv 36 = .bool false := by rw [← hsv]; rfl
              rw [hq]
              have HB := Lib.hid (HB.out.trans (hW.1.mono HB.out.size))
              clear hsv hq hmem hW
              clear CEL HPL
              go_wp2
              exact ⟨⟨k + 1, by omega, by go_num, HB, HF⟩, by simp [intOf]; omega⟩
        · have HF := Lib.hid (HNEXT.out (by rw [HAT.out, hok, decide_eq_false hk0]; rfl))
          clear hok HNEXT
          go_wp2_with fail
          refine region_free (by kernel_rfl) (by kernel_rfl) 39 rfl [12, 13, 14, 15, 16, 17, 18, 19, 20, 21, 22, 23, 24, 25, 26, 27, 28, 29, 30, 31, 32, 33, 34, 35, 36] [5] [(17, 5)]
            [(12, [], fun _ => .agg #[.int .i64 s.K, .int .i64 s.M, .int .i64 s.size]), (13, [], fun _ => (.slice (some ⟨b, o, none⟩) n c)), (14, [], fun _ => .int .i64 (k : Int)), (15, [], fun _ => .pointer (some ⟨b, o + k * 4, none⟩)), (16, [], fun _ => .agg #[.int .i64 x.id, .int .i64 x.len, .int .i64 x.gen, .slice A3 n3 c3]), (18, [5], fun _ => .bool false), (19, [5], fun _ => .bool false), (20, [], fun _ => .int .i64 (k : Int)), (21, [], fun _ => .bool false), (22, [], fun _ => .bool false), (23, [], fun _ => undef), (24, [], fun _ => undef), (25, [], fun _ => undef), (26, [], fun _ => undef), (27, [], fun _ => undef), (28, [], fun _ => undef), (29, [], fun _ => undef), (30, [], fun _ => undef), (31, [], fun _ => undef), (32, [], fun _ => undef), (33, [], fun _ => undef), (34, [], fun _ => undef), (35, [], fun _ => .bool false), (36, [], fun _ => .bool false)]
            [] [] [[], [], [], [13, 14], [15], [12, 16], [17], [18], [19], [20, 19], [21, 19], [22], [22], [24, 22], [23, 25, 22], [26, 22], [27, 22], [22], [22], [29, 30, 22], [31, 22], [32, 22], [28, 33, 22], [22, 34, 19], [19, 35]]
            (WdB wr (fun i v _ => i = 5 → v = .bool true)) (by kernel_rfl) .init ⟨?_, ?_, ?_, ?_, ?_, ?_, ?_, ?_, ?_, ?_, ?_, ?_, ?_, ?_, ?_, ?_, ?_, ?_, ?_, ?_, ?_, ?_, ?_, ?_, ?_, trivial⟩ ?_
          · (refine OpH.rd rfl rfl (fun ρ us w6 ho ht hc hl hsrc hW => ?_); have e2 := (ho 2 rfl).trans (show _ = ((.pointer (some ⟨w.heap.size, 0, none⟩)) : Value) from rfl); obtain ⟨k0, k1, k2, z0, z1, z2, z3, zp⟩ := CEL.out w6 (HB.out.trans (hW.1.mono HB.out.size)); clear ht ho; simp only [execOp, e2]; go_simp; try rfl)
          · (refine OpH.rd rfl rfl (fun ρ us w6 ho ht hc hl hsrc hW => ?_); have e1 := (ho 1 rfl).trans (show _ = ((.slice (some ⟨b, o, none⟩) n c) : Value) from rfl); clear ht ho; simp only [execOp, e1]; go_simp; try rfl)
          · (refine OpH.rd rfl rfl (fun ρ us w6 ho ht hc hl hsrc hW => ?_); have e5 := (ho 5 rfl).trans (show _ = (.int .i64 (k : Int) : Value) from rfl); clear ht ho; simp only [execOp, e5]; go_simp; try rfl)
          · (refine OpH.rd rfl rfl (fun ρ us w6 ho ht hc hl hsrc hW => ?_); have e13 := (ht 13 (by decide)).trans (show _ = ((.slice (some ⟨b, o, none⟩) n c) : Value) from rfl); have e14 := (ht 14 (by decide)).trans (show _ = (.int .i64 (k : Int) : Value) from rfl); clear ht ho; simp only [execOp, e13, e14]; go_simp; try rfl)
          · (refine OpH.rd rfl rfl (fun ρ us w6 ho ht hc hl hsrc hW => ?_); have e15 := (ht 15 (by decide)).trans (show _ = (.pointer (some ⟨b, o + k * 4, none⟩) : Value) from rfl); obtain ⟨k0, k1, k2, z0, z1, z2, z3, zp⟩ := CEL.out w6 (HB.out.trans (hW.1.mono HB.out.size)); clear ht ho; simp only [execOp, e15]; go_simp; try rfl)
          · refine OpH.wr rfl (fun Z us w6 ho ht hni hlim hreq hW K hK => ?_)
            have e12 := (ht 12 (by decide)).trans (show _ = (.agg #[.int .i64 s.K, .int .i64 s.M, .int .i64 s.size] : Value) from rfl)
            have e16 := (ht 16 (by decide)).trans (show _ = (.agg #[.int .i64 x.id, .int .i64 x.len, .int .i64 x.gen, .slice A3 n3 c3] : Value) from rfl)
            have hcl := refStripe_c (w := w6) (s := s) (x := x) (HPL.out w6 (HB.out.trans (hW.1.mono HB.out.size)))
            rw [HOK.out] at hcl
            refine step_call rfl 49 #[.tmp 12, .tmp 16] #[23, 97] rfl Try.func49 (by kernel_rfl) (by kernel_rfl) #[.agg #[.int .i64 s.K, .int .i64 s.M, .int .i64 s.size], .agg #[.int .i64 x.id, .int .i64 x.len, .int .i64 x.gen, .slice A3 n3 c3]] (by simp [e12, e16]) (hcl) ?_
            rintro e w7 ⟨rfl, hb7⟩
            exact ⟨_, rfl, hK _ _ (hW.snoc hb7 (fun j v h => h) (fun _ => rfl))⟩
          · (refine OpH.rd rfl rfl (fun ρ us w6 ho ht hc hl hsrc hW => ?_); have e17 := (ht 17 (by decide)).trans (show _ = ((us.lookup 5).getD undef : Value) from rfl); rw [hW.at_ (hsrc 5 (by exact (List.mem_singleton.2 rfl : (5 : Nat) ∈ [5]))) rfl] at e17; clear ht ho; simp only [execOp, e17]; go_simp; try rfl)
          · (refine OpH.rd rfl rfl (fun ρ us w6 ho ht hc hl hsrc hW => ?_); have e18 := (ht 18 (by decide)).trans (show _ = (.bool false : Value) from rfl); clear ht ho; simp only [execOp, e18]; go_simp; try rfl)
          · (refine OpH.rdg rfl 7 19 false rfl rfl (by decide) (fun _ _ _ => rfl) (fun ρ us w6 ho ht hc hl hsrc hW => ?_); have e5 := (ho 5 rfl).trans (show _ = (.int .i64 (k : Int) : Value) from rfl); clear ht ho; simp only [execOp, e5]; go_simp; try rfl)
          · (refine OpH.rdg rfl 7 19 false rfl rfl (by decide) (fun _ _ _ => rfl) (fun ρ us w6 ho ht hc hl hsrc hW => ?_); have e20 := (ht 20 (by decide)).trans (show _ = (.int .i64 (k : Int) : Value) from rfl); clear ht ho; simp only [execOp, e20]; go_simp; first | rfl | exact congrArg Value.bool (decide_eq_true (by omega)) | exact congrArg Value.bool (decide_eq_false (by omega)) | (simp; done) | (simp; omega))
          · (refine OpH.rdg rfl 7 19 false rfl rfl (by decide) (fun _ _ _ => rfl) (fun ρ us w6 ho ht hc hl hsrc hW => ?_); have e21 := (ht 21 (by decide)).trans (show _ = (.bool false : Value) from rfl); clear ht ho; simp only [execOp, e21]; go_simp; try rfl)
          · (exact OpH.rdn rfl 10 22 true rfl rfl (by decide) (fun _ _ _ => rfl) (fun _ => rfl))
          · (exact OpH.rdn rfl 10 22 true rfl rfl (by decide) (fun _ _ _ => rfl) (fun _ => rfl))
          · (exact OpH.rdn rfl 10 22 true rfl rfl (by decide) (fun _ _ _ => rfl) (fun _ => rfl))
          · (exact OpH.rdn rfl 10 22 true rfl rfl (by decide) (fun _ _ _ => rfl) (fun _ => rfl))
          · (exact OpH.rdn rfl 10 22 true rfl rfl (by decide) (fun _ _ _ => rfl) (fun _ => rfl))
          · (exact OpH.rdn rfl 10 22 true rfl rfl (by decide) (fun _ _ _ => rfl) (fun _ => rfl))
          · (exact OpH.rdn rfl 10 22 true rfl rfl (by decide) (fun _ _ _ => rfl) (fun _ => rfl))
          · (exact OpH.rdn rfl 10 22 true rfl rfl (by decide) (fun _ _ _ => rfl) (fun _ => rfl))
          · (exact OpH.rdn rfl 10 22 true rfl rfl (by decide) (fun _ _ _ => rfl) (fun _ => rfl))
          · (exact OpH.rdn rfl 10 22 true rfl rfl (by decide) (fun _ _ _ => rfl) (fun _ => rfl))
          · (exact OpH.rdn rfl 10 22 true rfl rfl (by decide) (fun _ _ _ => rfl) (fun _ => rfl))
          · (exact OpH.rdn rfl 10 22 true rfl rfl (by decide) (fun _ _ _ => rfl) (fun _ => rfl))
          · (refine OpH.rdg rfl 7 19 false rfl rfl (by decide) (fun _ _ _ => rfl) (fun ρ us w6 ho ht hc hl hsrc hW => ?_); have e22 := (ht 22 (by decide)).trans (show _ = (.bool false : Value) from rfl); have e34 := (ht 34 (by decide)).trans (show _ = (undef : Value) from rfl); clear ht ho; simp only [execOp, e22, e34]; go_simp; try rfl)
          · (refine OpH.rd rfl rfl (fun ρ us w6 ho ht hc hl hsrc hW => ?_); have e19 := (ht 19 (by decide)).trans (show _ = (.bool false : Value) from rfl); have e35 := (ht 35 (by decide)).trans (show _ = (.bool false : Value) from rfl); clear ht ho; simp only [execOp, e19, e35]; go_simp; try rfl)
          · intro us w9 hmem hW
            simp only [putAll, List.map_cons, List.map_nil, List.foldl_cons, List.foldl_nil, Act.put, List.setIfInBounds_toArray, List.set_cons_succ, List.set_cons_zero]
            generalize hsv : slotAt _ _ us = sv
            have hq : sv 36 = .bool false := by rw [← hsv]; rfl
            rw [hq]
            have HB := Lib.hid (HB.out.trans (hW.1.mono HB.out.size))
            clear hsv hq hmem hW
            clear CEL HPL
            go_wp2
            exact ⟨⟨k + 1, by omega, by go_num, HB, HF⟩, by simp [intOf]; omega⟩
    · have HF : Hid (stripesB s l = true) := Lib.hid (stripesB_true (fun j hj => he.out j (by have := HL.out; omega)))
      obtain ⟨k0, k1, k2⟩ := ROW.out wr HB.out
      go_wp2_with fail
      refine (refShape_c (s := s)).mono ?_
      clear k0 k1 k2
      rintro r w9 ⟨rfl, hb9⟩
      have HB9 := Lib.hid (HB.out.trans (hb9.mono HB.out.size)); clear hb9
      go_wp2
      go_ret
      exact ⟨by rw [HF.out]; rfl, HALL.out _ HB9.out⟩
end Go.Proofs.Ytjeecdoffoahkaa
