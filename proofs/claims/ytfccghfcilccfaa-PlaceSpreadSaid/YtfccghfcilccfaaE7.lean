/- silolaw15.PlaceSpread answers true. -/
import Derived.Test.YtfccghfcilccfaaE3
import Derived.Test.YtfccghfcilccfaaE5
import Derived.Test.YtfccghfcilccfaaE6
import Derived.Deep.Cut
namespace Go.Silo
open Go Go.RowKit
theorem Sl.drop {α : Type} {tg : Bool} {T : TypeId} {E : Enc α} {w : World} {S : Nat → Prop} {b off n c : Nat} {xs : List α} (h : Sl tg T E w S (some ⟨b, off, none⟩) n c xs) {m : Nat} (hm : m < n) (hsz : E.sz = 1) :
    Sl tg T E w S (some ⟨b, off + m, none⟩) (n - m) (c - m) (xs.drop m) := by
  obtain ⟨h1, h2, h3, h4⟩ := h
  refine ⟨by rw [List.length_drop]; omega, by omega, by omega, fun _ => ?_⟩
  obtain ⟨b', off', e, hb, hlt, ht, hx⟩ := h4 (by omega)
  injection e with e; injection e with e1 e2 _; subst e1; subst e2
  refine ⟨b, off + m, rfl, hb, hlt, ht, fun k x hk => ?_⟩
  rw [List.getElem?_drop] at hk
  obtain ⟨vs, hv, hc⟩ := hx (m + k) x hk
  refine ⟨vs, hv, fun j v hj => ?_⟩
  have := hc j v hj
  rw [hsz, Nat.mul_one] at this ⊢
  rwa [show off + m + k + j = off + (m + k) + j from by omega]
end Go.Silo
namespace Go.Proofs.Ytfccghfcilccfaa
open Go.RowKit Go.Silo

def spX (k m : Nat) : SlotsD := ⟨List.replicate k true, (List.replicate k (upto 8)).set 1 ((upto 8).drop m)⟩
def spY (k m : Nat) : SlotsD := ⟨(List.replicate k true).set 1 false, (List.replicate k (upto 8)).set 1 ((upto 8).drop m)⟩
set_option maxRecDepth 100000 in
theorem sp0 : ∀ k, k < 6 → 2 ≤ k → spreadX (newX k 8) = 0 := by decide
set_option maxRecDepth 100000 in
theorem sp1 : ∀ k, k < 6 → 2 ≤ k → ∀ m, m < 8 → spreadX (spX k m) = (m : Int) := by decide
set_option maxRecDepth 100000 in
theorem sp2 : ∀ k, k < 6 → 2 ≤ k → ∀ m, m < 8 → spreadX (spY k m) = 0 := by decide
theorem sp3 : spreadX ⟨[false], [[1, 2]]⟩ = 0 := by decide
theorem rat8 : ∀ m, m < 8 → ∀ j, j < ((upto 8).drop m).length → 0 ≤ ((upto 8).drop m).getD j 0 ∧ ((upto 8).drop m).getD j 0 ≤ 63 ∧ (0 < j → ((upto 8).drop m).getD (j - 1) 0 < ((upto 8).drop m).getD j 0) := by decide
theorem rising8 {m : Nat} (hm : m < 8) : Rising ((upto 8).drop m) := rat8 m hm
theorem ok_rows {k m : Nat} (hm : m < 8) : ∀ l ∈ (List.replicate k (upto 8)).set 1 ((upto 8).drop m), Rising l := fun l hl => by
  rcases List.mem_or_eq_of_mem_set hl with hl | rfl
  · rw [(List.mem_replicate.1 hl).2]; exact rising8 (m := 0) (by decide)
  · exact rising8 hm
theorem ok0 {k : Nat} (h1 : 2 ≤ k) (h2 : k < 6) : slotsOkB (newX k 8) = true := slotsOkB_true ⟨by simp [newX]; omega, by simp [newX]; omega, by simp [newX], fun l hl => by rw [(List.mem_replicate.1 hl).2]; exact rising8 (m := 0) (by decide)⟩
theorem ok1 {k m : Nat} (h1 : 2 ≤ k) (h2 : k < 6) (hm : m < 8) : slotsOkB (spX k m) = true := slotsOkB_true ⟨by simp [spX]; omega, by simp [spX]; omega, by simp [spX], ok_rows hm⟩
theorem ok2 {k m : Nat} (h1 : 2 ≤ k) (h2 : k < 6) (hm : m < 8) : slotsOkB (spY k m) = true := slotsOkB_true ⟨by simp [spY]; omega, by simp [spY]; omega, by simp [spY], ok_rows hm⟩
theorem rat3 : ∀ j, j < ([1, 2] : List Int).length → 0 ≤ ([1, 2] : List Int).getD j 0 ∧ ([1, 2] : List Int).getD j 0 ≤ 63 ∧ (0 < j → ([1, 2] : List Int).getD (j - 1) 0 < ([1, 2] : List Int).getD j 0) := by decide
theorem ok3 : slotsOkB ⟨[false], [[1, 2]]⟩ = true := slotsOkB_true ⟨by decide, by decide, rfl, fun l hl => by
  obtain rfl : l = [1, 2] := by simpa using hl
  exact rat3⟩

/-- The slots that are made, in a box of their own. -/
structure XP (W0 : World) (base gx : Nat) (x : SlotsD) (A0 : Option Addr) (k c0 : Nat) (A1 : Option Addr) (c1 : Nat) (V : World) : Prop where
  bx : V.heap[gx]? = some (.cells #[.slice A0 k c0, .slice A1 k c1] 62 (0, 0))
  y0 : Sl true 4 boolE V (fun b => base ≤ b ∧ b ≠ gx) A0 k c0 x.live
  y1 : Sl true 52 (slE true 3 intE) V (fun b => base ≤ b ∧ b ≠ gx) A1 k c1 x.free
  below : Below W0.heap.size W0 V
  hb : W0.heap.size ≤ base
  hg : base ≤ gx
section
variable {W0 V V' : World} {base gx k c0 c1 b o : Nat} {x : SlotsD} {A0 A1 : Option Addr}
theorem XP.hi (h : XP W0 base gx x A0 k c0 A1 c1 V) : gx < V.heap.size := (Array.getElem?_eq_some_iff.1 h.bx).1
theorem XP.all (h : XP W0 base gx x A0 k c0 A1 c1 V) (hb : Below V.heap.size V V') : XP W0 base gx x A0 k c0 A1 c1 V' := by
  have h1 := h.hi
  have h2 := h.hb
  have h3 := h.hg
  exact ⟨(hb.block _ h1).trans h.bx, h.y0.all hb, h.y1.all hb, h.below.trans (hb.mono (by omega)), h2, h3⟩
theorem XP.cells (h : XP W0 base gx x A0 k c0 A1 c1 V) : V.cell? ⟨gx, 0, none⟩ = some (.slice A0 k c0) ∧ V.cell? ⟨gx, 1, none⟩ = some (.slice A1 k c1) :=
  ⟨cell_of_row V _ 0 _ _ _ h.bx, cell_of_row V _ 1 _ _ _ h.bx⟩
/-- A row of free slots is put. -/
theorem XP.row {A : Option Addr} {n c : Nat} {ys : List Int} (h : XP W0 base gx x A0 k c0 (some ⟨b, o, none⟩) c1 V) (hk : 1 < k) (hS : base ≤ b ∧ b ≠ gx) (hy : Sl true 3 intE V (fun b => base ≤ b ∧ b ≠ gx) A n c ys) :
    XP W0 base gx ⟨x.live, x.free.set 1 ys⟩ A0 k c0 (some ⟨b, o, none⟩) c1 (V.setCell ⟨b, o + 1, none⟩ (.slice A n c)) := by
  have h2 := h.hb
  obtain ⟨q, hq⟩ := Sl.tagAt h.y1 (by omega)
  have hT : Turns (fun b => base ≤ b ∧ b ≠ gx) 52 V (V.setCell ⟨b, o + 1, none⟩ (.slice A n c)) := (Turns.refl _ _ V).setCell (p := ⟨b, o + 1, none⟩) hS hq _
  have hbb : b ≠ gx := hS.2
  have hbl : base ≤ b := hS.1
  exact ⟨by rw [Below.heap_setCell _ _ _ _ (by simp; omega)]; exact h.bx, hT.sl (boolE_avoids _) (by decide) h.y0, h.y1.set1 rfl (Avoids.slE (intE_avoids _) (by decide)) hk ⟨_, _, _, rfl, hy⟩, h.below.setCell (by show W0.heap.size ≤ b; omega) _, h2, h.hg⟩
/-- A disk dies. -/
theorem XP.dies (h : XP W0 base gx x (some ⟨b, o, none⟩) k c0 A1 c1 V) (hk : 1 < k) (hS : base ≤ b ∧ b ≠ gx) :
    XP W0 base gx ⟨x.live.set 1 false, x.free⟩ (some ⟨b, o, none⟩) k c0 A1 c1 (V.setCell ⟨b, o + 1, none⟩ (.bool false)) := by
  have h2 := h.hb
  obtain ⟨q, hq⟩ := Sl.tagAt h.y0 (by omega)
  have hT : Turns (fun b => base ≤ b ∧ b ≠ gx) 4 V (V.setCell ⟨b, o + 1, none⟩ (.bool false)) := (Turns.refl _ _ V).setCell (p := ⟨b, o + 1, none⟩) hS hq _
  have hbb : b ≠ gx := hS.2
  have hbl : base ≤ b := hS.1
  exact ⟨by rw [Below.heap_setCell _ _ _ _ (by simp; omega)]; exact h.bx, h.y0.set1 rfl (boolE_avoids _) hk ⟨rfl, trivial⟩, hT.sl (Avoids.slE (intE_avoids _) (by decide)) (by decide) h.y1, h.below.setCell (by show W0.heap.size ≤ b; omega) _, h2, h.hg⟩
end
theorem own_low {w : World} {base base' : Nat} {S : Nat → Prop} {A : Option Addr} {n c : Nat} {xs : List Int} (h : Own 3 intE w base' S A n c xs) (hb : base ≤ base') : Own 3 intE w base S A n c xs := by
  obtain ⟨cells, ho, hl, hx⟩ := h
  refine ⟨cells, ⟨ho.1, ?_⟩, hl, hx⟩
  rcases ho.2 with h | ⟨g, cap, cur, hv, hg, r⟩
  · exact .inl h
  · exact .inr ⟨g, cap, cur, hv, Nat.le_trans hb hg, r⟩
/-- The worlds between the steps of 'x.Free[1] = CopyNumbers(x.Free[1][k:])'. -/
inductive WdP (V : World) (xs : List Int) (b o : Nat) : List (Nat × Value) → World → Prop
  | n0 {W : World} : Below V.heap.size V W → WdP V xs b o [] W
  | nc {W : World} {A : Option Addr} {c : Nat} : Below V.heap.size V W → Own 3 intE W V.heap.size (fun _ => False) A xs.length c xs → WdP V xs b o [(8, .slice A xs.length c)] W
  | done {W : World} {A : Option Addr} {c : Nat} {x : Value} : Below V.heap.size V W → Own 3 intE W V.heap.size (fun _ => False) A xs.length c xs → WdP V xs b o [(8, .slice A xs.length c), (10, x)] (W.setCell ⟨b, o, none⟩ (.slice A xs.length c))
theorem WdP.below {V W : World} {xs : List Int} {b o : Nat} {us : List (Nat × Value)} (h : WdP V xs b o us W) (hn : 10 ∉ us.map Prod.fst) : Below V.heap.size V W := by
  cases h with
  | n0 h => exact h
  | nc h _ => exact h
  | done _ _ => exact absurd (by simp) hn
set_option maxRecDepth 100000 in
set_option maxHeartbeats 8000000 in
theorem PlaceSpread_c {S : Nat → Prop} {w : World} {p : AskP} {As Ax A0 A1 Ag An : Option Addr} {ns cs nx cx n0 c0 n1 c1 ng cg nn cn : Nat} (hB : AskB p) (h : AskR w S p As ns cs Ax nx cx A0 n0 c0 A1 n1 c1 Ag ng cg An nn cn) :
    Calls Try.prog 9 #[.agg #[.slice As ns cs, .slice Ax nx cx, .slice A0 n0 c0, .slice A1 n1 c1, .slice Ag ng cg, .slice An nn cn]] w (RetV (.bool true) w) := by
  have hng : ng ≤ 140737488351232 := by have hr : reachBytes = 140737488351232 := by decide
                                        have h1 := hB.2.2.2.1.1; have h2 := h.g.len; rw [hr] at h1; omega
  have hrow := heap_alloc_new w (.cells #[.slice As ns cs, .slice Ax nx cx, .slice A0 n0 c0, .slice A1 n1 c1, .slice Ag ng cg, .slice An nn cn] 76)
  have hz : w.heap.size < (w.alloc (.cells #[.slice As ns cs, .slice Ax nx cx, .slice A0 n0 c0, .slice A1 n1 c1, .slice Ag ng cg, .slice An nn cn] 76)).heap.size := by simp
  have hal : Below w.heap.size w (w.alloc (.cells #[.slice As ns cs, .slice Ax nx cx, .slice A0 n0 c0, .slice A1 n1 c1, .slice Ag ng cg, .slice An nn cn] 76)) := (by repeat' (first | (with_reducible exact Below.refl _ _) | (with_reducible refine Below.alloc ?_ ?_ _) | (with_reducible refine Below.drew ?_) | (with_reducible refine below_drewN ?_ _) | (with_reducible refine Below.setCell ?_ ?_ _) | (refine via ?_ (by with_reducible assumption) ?_) | (refine via ?_ (below_ext _ _) ?_) | go_size))
  have HHV := Lib.hid (Heavy15_c hB (h.all hal)); clear hB h
  go_enter Try.func9, Try.ntmps9
  go_upto_region 1 with (fail)
  generalize (w.alloc (.cells #[.slice As ns cs, .slice Ax nx cx, .slice A0 n0 c0, .slice A1 n1 c1, .slice Ag ng cg, .slice An nn cn] 76)) = W0 at *
  have HAL := Lib.hid (fun W (hW : Below W0.heap.size W0 W) => hal.trans (hW.mono (Nat.le_of_lt hz))); clear hal
  have CELLS : Hid (∀ W, Below W0.heap.size W0 W → W.cell? ⟨w.heap.size, 0, none⟩ = some (.slice As ns cs) ∧ W.cell? ⟨w.heap.size, 1, none⟩ = some (.slice Ax nx cx) ∧ W.cell? ⟨w.heap.size, 2, none⟩ = some (.slice A0 n0 c0) ∧ W.cell? ⟨w.heap.size, 3, none⟩ = some (.slice A1 n1 c1) ∧ W.cell? ⟨w.heap.size, 4, none⟩ = some (.slice Ag ng cg) ∧ W.cell? ⟨w.heap.size, 5, none⟩ = some (.slice An nn cn)) := Lib.hid (fun W hW => by
    have r := (hW.block _ hz).trans hrow
    exact ⟨cell_of_row W _ 0 _ _ _ r, cell_of_row W _ 1 _ _ _ r, cell_of_row W _ 2 _ _ _ r, cell_of_row W _ 3 _ _ _ r, cell_of_row W _ 4 _ _ _ r, cell_of_row W _ 5 _ _ _ r⟩)
  clear hrow
  obtain ⟨y0, y1, y2, y3, y4, y5⟩ := CELLS.out W0 (Below.refl _ _)
  go_wp2_with fail
  refine HHV.out.mono ?_
  clear y0 y1 y2 y3 y4 y5
  rintro e w1 ⟨v, rfl, hb1, _⟩
  have HB1 := Lib.hid hb1; clear hb1
  cases v with
  | true =>
    go_wp2
    go_ret
    exact ⟨by trivial, HAL.out _ HB1.out⟩
  | false =>
    go_wp2_with fail
    go_loopw [3] (fun i wr => ∃ k : Nat, 2 ≤ k ∧ k ≤ 6 ∧ i = .int .i64 k ∧ Hid (Below W0.heap.size W0 wr)) (fun i _ => 6 - (intOf i).toNat)
    case atStart => exact ⟨2, Nat.le_refl _, by omega, rfl, HB1⟩
    case round =>
      obtain ⟨k, hk2, hk6, rfl, HB⟩ := hrel
      clear HB1
      have hW0 := HB.out.size
      by_cases hlt : k < 6
      · have hnew := refNew_c (w := wr) (d := k) (n := 8) (by omega) (by omega)
        go_wp2_with fail
        refine hnew.mono ?_
        clear hnew
        rintro e w2 ⟨vs, rfl, ⟨B0, m0, d0, B1, m1, d1, rfl, _, s0, s1⟩, hb2⟩
        obtain rfl : m0 = k := by have := s0.len; simpa [newX] using this.symm
        obtain rfl : m1 = m0 := by have := s1.len; simpa [newX] using this.symm
        have hs2 := hb2.size
        have hX : XP W0 wr.heap.size w2.heap.size (newX m1 8) B0 m1 d0 B1 d1 (w2.alloc (.cells #[.slice B0 m1 d0, .slice B1 m1 d1] 62)) :=
          ⟨heap_alloc_new _ _, (s0.lt_block.frame (Agree.alloc _ _ _) (by simp)).mono (fun b hb _ => ⟨hb.1, by have := hb.2; omega⟩), (s1.lt_block.frame (Agree.alloc _ _ _) (by simp)).mono (fun b hb _ => ⟨hb.1, by have := hb.2; omega⟩),
            (HB.out.trans (hb2.mono hW0)).alloc (by omega) _, hW0, hs2⟩
        have HX := Lib.hid hX; clear hX s0 s1 hb2
        go_upto_region 7 with (fail)
        generalize (w2.alloc (.cells #[.slice B0 m1 d0, .slice B1 m1 d1] 62)) = V1 at *
        generalize w2.heap.size = gx at *
        clear hs2
        obtain ⟨g0, g1⟩ := HX.out.cells
        have hsp := Spread_c HX.out.y0 HX.out.y1
        rw [ok0 hk2 hlt, if_pos rfl, sp0 _ hlt hk2, show okErr true = 0 from rfl] at hsp
        have HSP := Lib.hid hsp; clear hsp
        go_wp2_with fail
        refine HSP.out.mono ?_
        clear HSP g0 g1
        rintro e w3 ⟨rfl, hb2⟩
        have HX := Lib.hid (HX.out.all hb2); clear hb2
        obtain ⟨y0, y1, y2, y3, y4, y5⟩ := CELLS.out w3 HX.out.below
        have hwi := Within_c (w := w3) (i := (ng : Int) + m1) (n := 8) (by unfold I64; omega) (by omega) (by omega)
        go_wp2_with fail
        refine hwi.mono ?_
        clear hwi y0 y1 y2 y3 y4 y5
        rintro e w4 ⟨mm, rfl, ⟨hm0, hm8⟩, hb4⟩
        have HX := Lib.hid (HX.out.all hb4); clear hb4
        obtain ⟨m, rfl⟩ := Int.eq_ofNat_of_zero_le hm0
        have hm : m < 8 := by omega
        clear hm0 hm8
        have hy1 := HX.out.y1
        obtain ⟨b1, o1, Ar, nr, cr, rfl, hS1, hbl1, hrow, l1, fz1⟩ := hy1.sl_at (k := 1) (by omega)
        have hget : (newX m1 8).free.getD 1 [] = upto 8 := by
          show (List.replicate m1 (upto 8)).getD 1 [] = upto 8
          rw [List.getD_eq_getElem?_getD, List.getElem?_replicate, if_pos (by omega)]; rfl
        rw [hget] at hrow
        obtain rfl : nr = 8 := by have := hrow.len; simpa [upto] using this.symm
        have hcr : 8 ≤ cr := hrow.le
        have hcr2 : cr ≤ 9223372036854775807 := hrow.cap
        obtain ⟨br, orr, rfl, _, hblr, _⟩ := hrow.int_at (k := 0) (by omega)
        have hlen : ((upto 8).drop m).length = 8 - m := by rw [List.length_drop]; rfl
        have hdrop := hrow.drop hm rfl
        have HDROP := Lib.hid hdrop; clear hdrop hrow hget hy1
        have HLEN := Lib.hid hlen; clear hlen
        generalize hxs : (upto 8).drop m = xs at *
        have HXS := Lib.hid hxs; clear hxs
        have hgx := HX.out.hi
        have CEL : Hid (∀ us w6, WdP w4 xs b1 (o1 + 1) us w6 → 10 ∉ us.map Prod.fst → (w6.cell? ⟨gx, 0, none⟩ = some (.slice B0 m1 d0) ∧ w6.cell? ⟨gx, 1, none⟩ = some (.slice (some ⟨b1, o1, none⟩) m1 d1)) ∧ w6.cell? ⟨b1, o1 + 1, none⟩ = some (.slice (some ⟨br, orr, none⟩) 8 cr) ∧ w6.frozen? ⟨b1, o1 + 1, none⟩ = false) := Lib.hid (fun us w6 hW hn => by
          have hb := hW.below hn
          exact ⟨(HX.out.all hb).cells, (hb.cell (p := ⟨b1, o1 + 1, none⟩) hbl1).trans l1, (hb.frozen (p := ⟨b1, o1 + 1, none⟩) hbl1).trans fz1⟩)
        clear l1 fz1
        go_wp2_with fail
        refine region_free (by kernel_rfl) (by kernel_rfl) 94 rfl [33, 34, 35, 36, 37, 38, 39, 40, 41, 42] [8, 10] [(41, 8)]
          [(33, [], fun _ => .pointer (some ⟨gx, 1, none⟩)), (34, [], fun _ => .slice (some ⟨b1, o1, none⟩) m1 d1), (35, [], fun _ => .pointer (some ⟨gx, 1, none⟩)), (36, [], fun _ => .slice (some ⟨b1, o1, none⟩) m1 d1), (37, [], fun _ => .pointer (some ⟨b1, o1 + 1, none⟩)), (38, [], fun _ => .slice (some ⟨br, orr, none⟩) 8 cr),
            (39, [], fun _ => .int .i64 (m : Int)), (40, [], fun _ => .slice (some ⟨br, orr + m, none⟩) (8 - m) (cr - m)), (42, [], fun _ => .pointer (some ⟨b1, o1 + 1, none⟩))]
          [[], [10], [], [10], [], [10], [], [], [10], [], []] [[], [], [], [], [], [], [], [], [], [], [8]] [[], [33], [], [35], [36], [37], [], [38, 39], [40], [34], [42, 41]] (WdP w4 xs b1 (o1 + 1)) (by kernel_rfl) (.n0 (Below.refl _ _).drew)
          ⟨?_, ?_, ?_, ?_, ?_, ?_, ?_, ?_, ?_, ?_, ?_, trivial⟩ ?_
        · (refine OpH.rd rfl rfl (fun ρ us w6 ho ht hc hl hsrc hW => ?_); have e4 := (ho 4 rfl).trans (show _ = (.pointer (some ⟨gx, 0, none⟩) : Value) from rfl); clear ht ho; simp only [execOp, e4]; go_simp; try rfl)
        · (refine OpH.rd rfl rfl (fun ρ us w6 ho ht hc hl hsrc hW => ?_); have e33 := (ht 33 (by decide)).trans (show _ = (.pointer (some ⟨gx, 1, none⟩) : Value) from rfl); obtain ⟨⟨y0, y1⟩, y2, y3⟩ := CEL.out us w6 hW (hl 10 (by decide)); clear ht ho; simp only [execOp, e33]; go_simp; try rfl)
        · (refine OpH.rd rfl rfl (fun ρ us w6 ho ht hc hl hsrc hW => ?_); have e4 := (ho 4 rfl).trans (show _ = (.pointer (some ⟨gx, 0, none⟩) : Value) from rfl); clear ht ho; simp only [execOp, e4]; go_simp; try rfl)
        · (refine OpH.rd rfl rfl (fun ρ us w6 ho ht hc hl hsrc hW => ?_); have e35 := (ht 35 (by decide)).trans (show _ = (.pointer (some ⟨gx, 1, none⟩) : Value) from rfl); obtain ⟨⟨y0, y1⟩, y2, y3⟩ := CEL.out us w6 hW (hl 10 (by decide)); clear ht ho; simp only [execOp, e35]; go_simp; try rfl)
        · (refine OpH.rd rfl rfl (fun ρ us w6 ho ht hc hl hsrc hW => ?_); have e36 := (ht 36 (by decide)).trans (show _ = (.slice (some ⟨b1, o1, none⟩) m1 d1 : Value) from rfl); clear ht ho; simp only [execOp, e36]; go_simp; rw [if_pos (by omega)]; rfl)
        · (refine OpH.rd rfl rfl (fun ρ us w6 ho ht hc hl hsrc hW => ?_); have e37 := (ht 37 (by decide)).trans (show _ = (.pointer (some ⟨b1, o1 + 1, none⟩) : Value) from rfl); obtain ⟨⟨y0, y1⟩, y2, y3⟩ := CEL.out us w6 hW (hl 10 (by decide)); clear ht ho; simp only [execOp, e37]; go_simp; try rfl)
        · (refine OpH.rd rfl rfl (fun ρ us w6 ho ht hc hl hsrc hW => ?_); have e7 := (ho 7 rfl).trans (show _ = (.int .i64 (m : Int) : Value) from rfl); clear ht ho; simp only [execOp, e7]; go_simp; try rfl)
        · (refine OpH.rd rfl rfl (fun ρ us w6 ho ht hc hl hsrc hW => ?_); have e38 := (ht 38 (by decide)).trans (show _ = (.slice (some ⟨br, orr, none⟩) 8 cr : Value) from rfl); have e39 := (ht 39 (by decide)).trans (show _ = (.int .i64 (m : Int) : Value) from rfl); clear ht ho; simp only [execOp, Option.map_some, Option.map_none, e38, e39]; go_simp; rw [if_neg (show ¬ cr = m by omega), if_pos (show (m : Int) ≤ 8 by omega)]; rfl)
        · refine OpH.wr rfl (fun Z us w6 ho ht hni hlim hreq hW K hK => ?_)
          have e40 := (ht 40 (by decide)).trans (show _ = (.slice (some ⟨br, orr + m, none⟩) (8 - m) (cr - m) : Value) from rfl)
          have hb := hW.below (hlim 10 (by decide))
          have hcp := CopyNumbers_c (w := w6) (HDROP.out.all hb) (by omega)
          refine step_call rfl 65 #[.tmp 40] #[52] rfl Try.func65 (by kernel_rfl) (by kernel_rfl) #[.slice (some ⟨br, orr + m, none⟩) (8 - m) (cr - m)] (by simp [e40]) (hcp) ?_
          rintro e w7 ⟨A7, c7, rfl, hown7, hb7⟩
          refine ⟨_, rfl, hK _ _ ?_⟩
          cases hW with
          | n0 _ => exact .nc (hb.trans (hb7.mono hb.size)) (own_low hown7.flatS hb.size)
          | nc _ _ => exact absurd (by simp) hni
          | done _ _ => exact absurd (by simp) hni
        · (refine OpH.rd rfl rfl (fun ρ us w6 ho ht hc hl hsrc hW => ?_); have e34 := (ht 34 (by decide)).trans (show _ = (.slice (some ⟨b1, o1, none⟩) m1 d1 : Value) from rfl); clear ht ho; simp only [execOp, e34]; go_simp; rw [if_pos (by omega)]; rfl)
        · refine OpH.wr rfl (fun Z us w6 ho ht hni hlim hreq hW K hK => ?_)
          have r8 := hreq 8 (by decide)
          obtain ⟨_, y2, y3⟩ := CEL.out us w6 hW hni
          cases hW with
          | n0 _ => exact absurd r8 (by simp)
          | done _ _ => exact absurd (by simp) hni
          | @nc _ A7 c7 hb hown =>
            have e42 := (ht 42 (by decide)).trans (show _ = (.pointer (some ⟨b1, o1 + 1, none⟩) : Value) from rfl)
            have e41 := (ht 41 (by decide)).trans (show _ = (.slice A7 xs.length c7 : Value) from rfl)
            have HD := Lib.hid (WdP.done (b := b1) (o := o1 + 1) (x := undef) hb hown)
            clear hb hown ht ho hlim hreq hni r8
            rw [if_pos (by simp [Region.wanted])]
            unfold Oper.wp
            generalize Z.eval = ρ at *
            simp only [execOp, e42, e41]
            go_simp
            exact hK undef _ HD.out
        · intro us w7 hmem hW
          have r10 := hmem 10 (by decide)
          cases hW with
          | n0 _ => exact absurd r10 (by simp)
          | nc _ _ => exact absurd r10 (by simp)
          | @done w6 A7 c7 x10 hb hown =>
          simp only [putAll, List.map_cons, List.map_nil, List.foldl_cons, List.foldl_nil, Act.put, List.setIfInBounds_toArray, List.set_cons_succ, List.set_cons_zero]
          generalize slotAt _ _ _ = sv
          have hb4 := hb.size
          have hsl : Sl true 3 intE w6 (fun b => wr.heap.size ≤ b ∧ b ≠ gx) A7 xs.length c7 xs := by
            have h := hown.sl (tg := true)
            refine h.mono (fun b hb' _ => ?_)
            have h3 : w4.heap.size ≤ b := by
              rcases hb' with hb' | hb'
              · exact hb'.elim
              · exact hb'
            have := HX.out.hb
            have := HX.out.hg
            exact ⟨by omega, by omega⟩
          have HX := Lib.hid ((HX.out.all hb).row (b := b1) (o := o1) (ys := xs) (by omega) hS1 hsl)
          clear hsl
          clear hb hown r10 hmem hb4 CEL HDROP
          generalize (w6.setCell ⟨b1, o1 + 1, none⟩ (.slice A7 xs.length c7)) = w8 at *
          have hx1 : (⟨(newX m1 8).live, (newX m1 8).free.set 1 xs⟩ : SlotsD) = spX m1 m := by rw [← HXS.out]; rfl
          rw [hx1] at HX
          clear hx1
          obtain ⟨g0, g1⟩ := HX.out.cells
          have hsp := Spread_c HX.out.y0 HX.out.y1
          rw [ok1 hk2 hlt hm, if_pos rfl, sp1 _ hlt hk2 _ hm, show okErr true = 0 from rfl] at hsp
          have HSP := Lib.hid hsp; clear hsp
          go_wp2_with fail
          refine HSP.out.mono ?_
          clear HSP g0 g1
          rintro e w9 ⟨rfl, hb2⟩
          have HX := Lib.hid (HX.out.all hb2); clear hb2
          have hy0 := HX.out.y0
          obtain ⟨b0, o0, rfl, hS0, hbl0, l0, fz0⟩ := hy0.bool_at (k := 1) (by omega)
          have HX2 := Lib.hid (HX.out.dies (by omega) hS0)
          have hx2 : (⟨(spX m1 m).live.set 1 false, (spX m1 m).free⟩ : SlotsD) = spY m1 m := rfl
          rw [hx2] at HX2
          clear hx2 hy0
          obtain ⟨g0, g1⟩ := HX.out.cells
          have h1m : (1 : Int) < (m1 : Int) := by omega
          go_upto_region 12 with (fail)
          clear g0 g1 l0 fz0 h1m HX hbl0 hbl1 hblr
          generalize (w9.setCell ⟨b0, o0 + 1, none⟩ (.bool false)) = w10 at *
          rename Hid (XP W0 wr.heap.size gx (spY m1 m) _ _ _ _ _ w10) => HX
          obtain ⟨g0, g1⟩ := HX.out.cells
          have hsp := Spread_c HX.out.y0 HX.out.y1
          rw [ok2 hk2 hlt hm, if_pos rfl, sp2 _ hlt hk2 _ hm, show okErr true = 0 from rfl] at hsp
          have HSP := Lib.hid hsp; clear hsp
          go_wp2_with fail
          refine HSP.out.mono ?_
          clear HSP g0 g1
          rintro e w11 ⟨rfl, hb2⟩
          have HX := Lib.hid (HX.out.all hb2); clear hb2
          have hl0 : Own 4 boolE (w11.alloc (.cells #[.bool false] 4)) w11.heap.size (fun _ => False) (some ⟨w11.heap.size, 0, none⟩) 1 1 ([false] : List Bool) :=
            Own.lit [.bool false] [false] 1 (Nat.le_refl _) (by omega) rfl rfl (fun k y hy => by
              match k, hy with
              | 0, hy => injection hy with hy; subst hy; exact ⟨rfl, trivial⟩)
          have hl1 : Own 3 intE ((w11.alloc (.cells #[.bool false] 4)).alloc (.cells #[.int .i64 1, .int .i64 2] 3)) (w11.alloc (.cells #[.bool false] 4)).heap.size (fun _ => False) (some ⟨(w11.alloc (.cells #[.bool false] 4)).heap.size, 0, none⟩) 2 2 ([1, 2] : List Int) :=
            Own.lit [.int .i64 1, .int .i64 2] [1, 2] 2 (Nat.le_refl _) (by omega) rfl rfl (fun k y hy => by
              match k, hy with
              | 0, hy => injection hy with hy; subst hy; exact ⟨rfl, show I64 1 by unfold I64; omega⟩
              | 1, hy => injection hy with hy; subst hy; exact ⟨rfl, show I64 2 by unfold I64; omega⟩)
          rw [World.size_alloc] at hl1
          have hl2 : Own 52 (slE true 3 intE) (((w11.alloc (.cells #[.bool false] 4)).alloc (.cells #[.int .i64 1, .int .i64 2] 3)).alloc (.cells #[.slice (some ⟨w11.heap.size + 1, 0, none⟩) 2 2] 52)) ((w11.alloc (.cells #[.bool false] 4)).alloc (.cells #[.int .i64 1, .int .i64 2] 3)).heap.size (fun _ => True) (some ⟨((w11.alloc (.cells #[.bool false] 4)).alloc (.cells #[.int .i64 1, .int .i64 2] 3)).heap.size, 0, none⟩) 1 1 ([[1, 2]] : List (List Int)) :=
            Own.lit [.slice (some ⟨w11.heap.size + 1, 0, none⟩) 2 2] [[1, 2]] 1 (Nat.le_refl _) (by omega) rfl rfl (fun k y hy => by
              match k, hy with
              | 0, hy => injection hy with hy; subst hy; exact ⟨_, _, _, rfl, (hl1.sl (tg := true)).mono (fun _ _ _ => trivial)⟩)
          rw [World.size_alloc, World.size_alloc] at hl2
          have hsp := Spread_c (x := ⟨[false], [[1, 2]]⟩) (((hl0.sl (tg := true)).all (w' := (((w11.alloc (.cells #[.bool false] 4)).alloc (.cells #[.int .i64 1, .int .i64 2] 3)).alloc (.cells #[.slice (some ⟨w11.heap.size + 1, 0, none⟩) 2 2] 52))) (by repeat' (first | (with_reducible exact Below.refl _ _) | (with_reducible refine Below.alloc ?_ ?_ _) | (with_reducible refine Below.drew ?_) | (with_reducible refine below_drewN ?_ _) | (with_reducible refine Below.setCell ?_ ?_ _) | (refine via ?_ (by with_reducible assumption) ?_) | (refine via ?_ (below_ext _ _) ?_) | go_size))).mono (S' := fun _ => True) (fun _ _ _ => trivial)) ((hl2.sl (tg := true)).mono (fun _ _ _ => trivial))
          rw [ok3, if_pos rfl, sp3, show okErr true = 0 from rfl] at hsp
          have HSP := Lib.hid hsp; clear hsp hl0 hl1 hl2
          have HB11 : Hid (Below W0.heap.size W0 (((w11.alloc (.cells #[.bool false] 4)).alloc (.cells #[.int .i64 1, .int .i64 2] 3)).alloc (.cells #[.slice (some ⟨w11.heap.size + 1, 0, none⟩) 2 2] 52))) := Lib.hid (((HX.out.below.alloc HX.out.below.size _).alloc (by have := HX.out.below.size; simp; omega) _).alloc (by have := HX.out.below.size; simp; omega) _)
          go_wp2_with fail
          refine HSP.out.mono ?_
          clear HSP HX
          rintro e w12 ⟨rfl, hb12⟩
          have HB12 := Lib.hid (HB11.out.trans (hb12.mono HB11.out.size)); clear hb12 HB11
          go_wp2_with fail
          refine num15_c.mono ?_
          rintro e w13 ⟨rfl, hb13⟩
          have HB13 := Lib.hid (HB12.out.trans (hb13.mono HB12.out.size)); clear hb13
          go_wp2_with fail
          refine num15_c.mono ?_
          rintro e w14 ⟨rfl, hb14⟩
          have HB14 := Lib.hid (HB13.out.trans (hb14.mono HB13.out.size)); clear hb14
          go_wp2_with fail
          refine num15_c.mono ?_
          rintro e w15 ⟨rfl, hb15⟩
          have HB15 := Lib.hid (HB14.out.trans (hb15.mono HB14.out.size)); clear hb15
          go_wp2_with fail
          refine num15_c.mono ?_
          rintro e w16 ⟨rfl, hb16⟩
          have HB16 := Lib.hid (HB15.out.trans (hb16.mono HB15.out.size)); clear hb16
          go_wp2
          go_roundw
          case rel => exact ⟨m1 + 1, by omega, by omega, by go_num, HB16⟩
          case measure => simp [intOf]; omega
      · go_wp2_with fail
        refine wakes15_c.mono ?_
        rintro e w3 ⟨rfl, hb3⟩
        have HB3 := Lib.hid (HAL.out _ (HB.out.trans (hb3.mono hW0))); clear hb3
        go_wp2
        go_ret
        exact ⟨by trivial, HB3.out⟩

end Go.Proofs.Ytfccghfcilccfaa
