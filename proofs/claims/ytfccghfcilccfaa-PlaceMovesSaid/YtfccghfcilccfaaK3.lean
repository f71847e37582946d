/- siloref16.Shift: a piece that may lie on another disk. Printed by gen_k3.py. -/
import Derived.Test.YtfccghfcilccfaaK2
import Derived.Test.YtfccghfcilccfaaE4
import Derived.Test.YtfccghfcilccfaaB6
import Derived.Deep.CutBlock
namespace Go.Silo
open Go Go.RowKit
/-- As WdT, but with one store. -/
inductive WdS (V : World) (R : Nat → Value → World → Prop) (s1 : Nat) (st1 : List (Nat × Value) → World → World) : List (Nat × Value) → World → Prop
  | pre {us : List (Nat × Value)} {W : World} : Below V.heap.size V W → (∀ i v, (i, v) ∈ us → R i v W) → s1 ∉ us.map Prod.fst → WdS V R s1 st1 us W
  | one {us : List (Nat × Value)} {W : World} {x : Value} : Below V.heap.size V W → (∀ i v, (i, v) ∈ us → R i v W) → s1 ∉ us.map Prod.fst → WdS V R s1 st1 (us ++ [(s1, x)]) (st1 us W)
section
variable {V W W' : World} {R : Nat → Value → World → Prop} {s1 : Nat} {st1 : List (Nat × Value) → World → World} {us : List (Nat × Value)}
theorem WdS.init : WdS V R s1 st1 [] V.drew := .pre (Below.refl _ _).drew (fun _ _ h => by cases h) (by simp)
theorem WdS.early (h : WdS V R s1 st1 us W) (hn : s1 ∉ us.map Prod.fst) : Below V.heap.size V W ∧ ∀ i v, (i, v) ∈ us → R i v W := by
  cases h with
  | pre hb h _ => exact ⟨hb, h⟩
  | one _ _ _ => exact absurd (by simp) hn
theorem WdS.snoc (h : WdS V R s1 st1 us W) {i : Nat} {x : Value} (h1 : i ≠ s1) (hn : s1 ∉ us.map Prod.fst) (hb : Below W.heap.size W W') (hs : ∀ j v, R j v W → R j v W') (hx : R i x W') : WdS V R s1 st1 (us ++ [(i, x)]) W' := by
  obtain ⟨hB, hR⟩ := h.early hn
  refine .pre (hB.trans (hb.mono hB.size)) (fun j v hj => ?_) ?_
  · rcases List.mem_append.1 hj with hj | hj
    · exact hs j v (hR j v hj)
    · simp at hj
      obtain ⟨rfl, rfl⟩ := hj
      exact hx
  · rw [List.map_append, List.mem_append]
    rintro (h | h)
    · exact hn h
    · simp at h; exact h1 h.symm
theorem WdS.store (h : WdS V R s1 st1 us W) (hn : s1 ∉ us.map Prod.fst) {x : Value} : WdS V R s1 st1 (us ++ [(s1, x)]) (st1 us W) := .one (h.early hn).1 (h.early hn).2 hn
theorem WdS.last (h : WdS V R s1 st1 us W) (h1 : s1 ∈ us.map Prod.fst) : ∃ us0 W0 x, us = us0 ++ [(s1, x)] ∧ W = st1 us0 W0 ∧ Below V.heap.size V W0 ∧ (∀ i v, (i, v) ∈ us0 → R i v W0) ∧ s1 ∉ us0.map Prod.fst := by
  cases h with
  | pre _ _ h => exact absurd h1 h
  | @one us0 W0 x a b c => exact ⟨us0, W0, x, rfl, rfl, a, b, c⟩
end
theorem sl_one_int {W : World} {g : Nat} {v : Int} {T : TypeId} (hv : I64 v) (h : W.heap[g]? = some (.cells #[.int .i64 v] T (0, 0))) : Sl true T intE W (fun b => b = g) (some ⟨g, 0, none⟩) 1 1 [v] := by
  refine ⟨rfl, Nat.le_refl _, by decide, fun _ => ⟨g, 0, rfl, rfl, (Array.getElem?_eq_some_iff.1 h).1, fun _ => ⟨_, shape_of_cells h⟩, fun k y hk => ?_⟩⟩
  match k, hk with
  | 0, hk =>
    injection hk with hk; subst hk
    refine ⟨[.int .i64 v], ⟨rfl, hv⟩, fun i u hi => ?_⟩
    match i, hi with
    | 0, hi => injection hi with hi; subst hi; exact ⟨cell_of_row W g 0 _ _ _ h, frozen_of_row W g 0 _ _ h⟩
theorem sl_one_slot {W : World} {g : Nat} {p : Slot} {T : TypeId} (hv : I64 p.disk ∧ I64 p.pos) (h : W.heap[g]? = some (.cells #[.int .i64 p.disk, .int .i64 p.pos] T (0, 0))) : Sl true T slotE W (fun b => b = g) (some ⟨g, 0, none⟩) 1 1 [p] := by
  refine ⟨rfl, Nat.le_refl _, by decide, fun _ => ⟨g, 0, rfl, rfl, (Array.getElem?_eq_some_iff.1 h).1, fun _ => ⟨_, shape_of_cells h⟩, fun k y hk => ?_⟩⟩
  match k, hk with
  | 0, hk =>
    injection hk with hk; subst hk
    refine ⟨[.int .i64 p.disk, .int .i64 p.pos], ⟨rfl, hv⟩, fun i u hi => ?_⟩
    match i, hi with
    | 0, hi => injection hi with hi; subst hi; exact ⟨cell_of_row W g 0 _ _ _ h, frozen_of_row W g 0 _ _ h⟩
    | 1, hi => injection hi with hi; subst hi; exact ⟨cell_of_row W g 1 _ _ _ h, frozen_of_row W g 1 _ _ h⟩
end Go.Silo
namespace Go.Proofs.Ytfccghfcilccfaa
open Go.RowKit Go.Silo

/-- Does a stripe lie on the fullest disk and not on the emptiest? -/
def shiftP (f e : Nat) (x : Stripe) : Bool := decide (0 ≤ onX x.place f) && decide (onX x.place e < 0)
def needOf (y : SlotsD) (f e : Nat) (x : Stripe) : Need := ⟨x.id, [onX x.place f], [⟨e, (y.free.getD e []).getD 0 0⟩]⟩
def shiftX (y : SlotsD) (l : List Stripe) : Need × Bool :=
  if 2 ≤ spreadX y then (if 0 ≤ idxOf (shiftP (edgesN y y.live.length).1 (edgesN y y.live.length).2.1) l then (needOf y (edgesN y y.live.length).1 (edgesN y y.live.length).2.1 (l.getD (idxOf (shiftP (edgesN y y.live.length).1 (edgesN y y.live.length).2.1) l).toNat default), true) else (noNeed, false)) else (noNeed, false)
theorem onX_I64 {l : List Slot} {d : Int} (h : l.length ≤ 100000) : I64 (onX l d) := by
  unfold onX idxOf
  cases hf : l.findIdx? (sameDisk d) with
  | none => show I64 (-1); unfold I64; omega
  | some k => have := (List.findIdx?_eq_some_iff_findIdx_eq.1 hf).1; show I64 (k : Int); unfold I64; omega
/-- Two results: a need, and a value. -/
def RetNd (w : World) (nd : Need) (v : Value) (e : Ending) (w' : World) : Prop :=
  ∃ A n c B m d, e = .returned (.tuple #[.agg #[.int .i64 nd.stripe, .slice A n c, .slice B m d], v]) ∧ Sl true 3 intE w' (fun b => w.heap.size ≤ b) A n c nd.index ∧ Sl true 104 slotE w' (fun b => w.heap.size ≤ b) B m d nd.to ∧ Below w.heap.size w w'
theorem RetNd.no {w w' : World} {v : Value} (hb : Below w.heap.size w w') : RetNd w noNeed v (.returned (.tuple #[.agg #[.int .i64 0, .slice none 0 0, .slice none 0 0], v])) w' := ⟨_, _, _, _, _, _, rfl, Sl.nil_ (by decide), Sl.nil_ (by decide), hb⟩
/-- What the region gives. -/
def RSh (q : Int) (e : Nat) (ps : Int) (V : World) (i : Nat) (v : Value) (W : World) : Prop :=
  (i = 6 → ∃ g, v = .slice (some ⟨g, 0, none⟩) 1 1 ∧ V.heap.size ≤ g ∧ W.heap[g]? = some (.cells #[.int .i64 q] 3 (0, 0))) ∧
  (i = 16 → ∃ g, v = .slice (some ⟨g, 0, none⟩) 1 1 ∧ V.heap.size ≤ g ∧ W.heap[g]? = some (.cells #[.int .i64 (e : Int), .int .i64 ps] 104 (0, 0)))
theorem RSh.all {q : Int} {e : Nat} {ps : Int} {V W W' : World} (hb : Below W.heap.size W W') (j : Nat) (v : Value) (h : RSh q e ps V j v W) : RSh q e ps V j v W' :=
  ⟨fun hj => by obtain ⟨g, a, b, c⟩ := h.1 hj; exact ⟨g, a, b, (hb.block _ (Array.getElem?_eq_some_iff.1 c).1).trans c⟩, fun hj => by obtain ⟨g, a, b, c⟩ := h.2 hj; exact ⟨g, a, b, (hb.block _ (Array.getElem?_eq_some_iff.1 c).1).trans c⟩⟩
def stN (g : Nat) (id : Int) (a b : Nat) (us : List (Nat × Value)) (W : World) : World := setAll g 0 [.int .i64 id, (us.lookup a).getD undef, (us.lookup b).getD undef] W

set_option maxRecDepth 100000 in
set_option maxHeartbeats 8000000 in
theorem refShift_c {tg tg1 tg2 : Bool} {S S2 : Nat → Prop} {w : World} {A A0 A1 : Option Addr} {n c n0 c0 n1 c1 : Nat} {l : List Stripe} {y : SlotsD} (hy : SlotsOk y) (h : Sl tg 79 (stripeE tg1) w S A n c l)
    (h0 : Sl tg2 4 boolE w S2 A0 n0 c0 y.live) (h1 : Sl tg2 52 (slE tg2 3 intE) w S2 A1 n1 c1 y.free) (hn : n ≤ 100000000) (hx : ∀ x ∈ l, x.place.length ≤ 100000) :
    Calls Try.prog 70 #[.slice A n c, .agg #[.slice A0 n0 c0, .slice A1 n1 c1]] w (RetNd w (shiftX y l).1 (.bool (shiftX y l).2)) := by
  have HL := Lib.hid h.len
  have HL0 := Lib.hid h0.len
  have HL1 := Lib.hid h1.len
  have HX := Lib.hid hx; clear hx
  have hn10 : n1 = n0 := by have := hy.same; have := HL0.out; have := HL1.out; omega
  subst hn10
  have hn12 : n1 ≤ 12 := by have := hy.most; have := HL0.out; omega
  have hal : Below w.heap.size w ((w.alloc (.cells #[.slice A0 n1 c0, .slice A1 n1 c1] 62)).alloc (.cells #[.int .i64 0, .slice none 0 0, .slice none 0 0] 88)) := (by repeat' (first | (with_reducible exact Below.refl _ _) | (with_reducible refine Below.alloc ?_ ?_ _) | (with_reducible refine Below.drew ?_) | (with_reducible refine below_drewN ?_ _) | (with_reducible refine Below.setCell ?_ ?_ _) | (refine via ?_ (by with_reducible assumption) ?_) | (refine via ?_ (below_ext _ _) ?_) | go_size))
  have hr0 : ((w.alloc (.cells #[.slice A0 n1 c0, .slice A1 n1 c1] 62)).alloc (.cells #[.int .i64 0, .slice none 0 0, .slice none 0 0] 88)).heap[w.heap.size]? = some (.cells #[.slice A0 n1 c0, .slice A1 n1 c1] 62 (0, 0)) := (Below.heap_alloc _ _ _ (by simp)).trans (heap_alloc_new w _)
  have hr1 : ((w.alloc (.cells #[.slice A0 n1 c0, .slice A1 n1 c1] 62)).alloc (.cells #[.int .i64 0, .slice none 0 0, .slice none 0 0] 88)).heap[w.heap.size + 1]? = some (.cells #[.int .i64 0, .slice none 0 0, .slice none 0 0] 88 (0, 0)) := by
    have := heap_alloc_new (w.alloc (.cells #[.slice A0 n1 c0, .slice A1 n1 c1] 62)) (.cells #[.int .i64 0, .slice none 0 0, .slice none 0 0] 88)
    rw [World.size_alloc] at this; exact this
  have hz : ((w.alloc (.cells #[.slice A0 n1 c0, .slice A1 n1 c1] 62)).alloc (.cells #[.int .i64 0, .slice none 0 0, .slice none 0 0] 88)).heap.size = w.heap.size + 2 := by simp
  have H := Lib.hid (h.all hal)
  have HED := Lib.hid (refEdges_c hy (h0.all hal) (h1.all hal))
  have HSP := Lib.hid (fun W (hW : Below w.heap.size w W) => refSpread_c (w := W) hy (h0.all hW) (h1.all hW))
  have H1 := Lib.hid (h1.all hal)
  have hlt := edgesN_lt y y.live.length
  have hsp : spreadX y = (if (edgesN y y.live.length).2.2 = true then (lenF y (edgesN y y.live.length).2.1 : Int) - lenF y (edgesN y y.live.length).1 else 0) := rfl
  have hsh : shiftX y l = (if 2 ≤ spreadX y then (if 0 ≤ idxOf (shiftP (edgesN y y.live.length).1 (edgesN y y.live.length).2.1) l then (needOf y (edgesN y y.live.length).1 (edgesN y y.live.length).2.1 (l.getD (idxOf (shiftP (edgesN y y.live.length).1 (edgesN y y.live.length).2.1) l).toNat default), true) else (noNeed, false)) else (noNeed, false)) := rfl
  generalize shiftX y l = R at *
  have HLT0 := Lib.hid hlt; clear hlt
  have HSPX0 := Lib.hid hsp; clear hsp
  have HSH0 := Lib.hid hsh; clear hsh
  clear h h0 h1
  go_enter Try.func70, Try.ntmps70
  go_upto_region 1 with (fail)
  generalize (w.alloc (.cells #[.slice A0 n1 c0, .slice A1 n1 c1] 62)).alloc (.cells #[.int .i64 0, .slice none 0 0, .slice none 0 0] 88) = W0 at *
  have ROW := Lib.hid (fun V (hV : Below W0.heap.size W0 V) => (show V.cell? ⟨w.heap.size, 0, none⟩ = some (.slice A0 n1 c0) ∧ V.cell? ⟨w.heap.size, 1, none⟩ = some (.slice A1 n1 c1) from by
    have r := (hV.block _ (by omega)).trans hr0
    exact ⟨cell_of_row V _ 0 _ _ _ r, cell_of_row V _ 1 _ _ _ r⟩))
  have ROW1 := Lib.hid (fun V (hV : Below W0.heap.size W0 V) => (hV.block (w.heap.size + 1) (by omega)).trans hr1)
  have HALL := Lib.hid (fun W (hW : Below W0.heap.size W0 W) => hal.trans (hW.mono (by omega)))
  have HBW0 := Lib.hid hz
  clear hr0 hr1 hal hz
  obtain ⟨y0, y1⟩ := ROW.out W0 (Below.refl _ _)
  go_wp2_with fail
  refine HED.out.mono ?_
  clear HED y0 y1
  rintro r w2 ⟨rfl, hb2⟩
  have HB2 := Lib.hid hb2; clear hb2
  have hlt := HLT0.out
  have hsp := HSPX0.out
  have hsh := HSH0.out
  clear HLT0 HSPX0 HSH0
  rw [HL0.out] at hsp hsh hlt ⊢
  have hfu : fullX y n1 = (if (edgesN y n1).2.2 = true then ((edgesN y n1).1 : Int) else -1) := rfl
  have heu : emptyX y n1 = (if (edgesN y n1).2.2 = true then ((edgesN y n1).2.1 : Int) else -1) := rfl
  generalize fullX y n1 = fu at *
  generalize emptyX y n1 = eu at *
  have hqs := HSP.out w2 (HALL.out _ HB2.out)
  generalize spreadX y = sp at *
  have HQS := Lib.hid hqs; clear hqs HSP
  generalize edgesN y n1 = E at *
  obtain ⟨f, e, o⟩ := E
  have HSH := Lib.hid hsh; clear hsh
  have HFU := Lib.hid hfu; clear hfu
  have HEU := Lib.hid heu; clear heu
  have HSPX := Lib.hid hsp; clear hsp
  have HLT := Lib.hid hlt; clear hlt
  obtain ⟨y0, y1⟩ := ROW.out w2 HB2.out
  go_wp2_with fail
  refine HQS.out.mono ?_
  clear HQS y0 y1
  rintro r w3 ⟨rfl, hb3⟩
  have HB := Lib.hid (HB2.out.trans (hb3.mono HB2.out.size)); clear hb3 HB2
  by_cases hs2 : sp < 2
  · have HRES : Hid (R = (noNeed, false)) := Lib.hid (HSH.out.trans (if_neg (by omega)))
    have hrow := ROW1.out w3 HB.out
    have f0 := (cell_of_row w3 _ 0 _ _ _ hrow).trans (show _ = some (Value.int .i64 0) from rfl)
    have f1 := (cell_of_row w3 _ 1 _ _ _ hrow).trans (show _ = some (Value.slice none 0 0) from rfl)
    have f2 := (cell_of_row w3 _ 2 _ _ _ hrow).trans (show _ = some (Value.slice none 0 0) from rfl)
    have f4 := frozen_of_row w3 _ 0 _ _ hrow
    have f5 := frozen_of_row w3 _ 1 _ _ hrow
    have f6 := frozen_of_row w3 _ 2 _ _ hrow
    have hsame : Hid (((w3.setCell ⟨w.heap.size + 1, 0, none⟩ (.int .i64 0)).setCell ⟨w.heap.size + 1, 1, none⟩ (.slice none 0 0)).setCell ⟨w.heap.size + 1, 2, none⟩ (.slice none 0 0) = w3) := Lib.hid (by
      rw [setCell_same (k := 0) (v := (.int .i64 0)) hrow rfl, setCell_same (k := 1) (v := (.slice none 0 0)) hrow rfl, setCell_same (k := 2) (v := (.slice none 0 0)) hrow rfl])
    clear hrow
    go_wp2
    rw [hsame.out]
    refine bodyPost_ret (v := .tuple #[.agg #[.int .i64 0, .slice none 0 0, .slice none 0 0], .bool false]) (by simp [results, Try.results70, go_sem, *]; done) rfl ?_
    rw [HRES.out]
    exact RetNd.no (HALL.out _ HB.out)
  · have ho : o = true := by
      cases o with
      | true => rfl
      | false => have h1 := HSPX.out; rw [if_neg (by simp)] at h1; omega
    subst ho
    obtain rfl : fu = (f : Int) := HFU.out.trans (if_pos rfl)
    obtain rfl : eu = (e : Int) := HEU.out.trans (if_pos rfl)
    clear HFU HEU
    have hspx : sp = (lenF y e : Int) - lenF y f := HSPX.out.trans (if_pos rfl)
    obtain ⟨hf, he⟩ := HLT.out rfl
    have hf1 : f < n1 := hf
    have he1 : e < n1 := he
    have HRR : Hid (R = (if 0 ≤ idxOf (shiftP f e) l then (needOf y f e (l.getD (idxOf (shiftP f e) l).toNat default), true) else (noNeed, false))) := Lib.hid (HSH.out.trans (if_pos (by omega)))
    obtain ⟨b1, o1, Ae, ne, ce, rfl, _, hbl1, hk3, qe, _⟩ := H1.out.sl_at he1
    have hne : lenF y e = ne := hk3.len
    have hne1 : 0 < ne := by omega
    obtain ⟨be, oe, rfl, _, hble, pI, qp, _⟩ := hk3.int_at hne1
    rw [Nat.add_zero] at qp
    have HPS := Lib.hid (show needOf y f e = fun x => ⟨x.id, [onX x.place f], [⟨e, (y.free.getD e []).getD 0 0⟩]⟩ from rfl)
    generalize (y.free.getD e []).getD 0 0 = ps at *
    clear hk3 hne hf he HSH HSPX HLT hspx
    go_wp2_with fail
    go_loopw [8] (fun i wr => ∃ k : Nat, k ≤ n ∧ i = .int .i64 k ∧ Hid (Below W0.heap.size W0 wr) ∧ Hid (∀ j, j < k → shiftP f e (l.getD j default) = false)) (fun i _ => n - (intOf i).toNat)
    case atStart => exact ⟨0, Nat.zero_le _, rfl, HB, Lib.hid (fun j hj => by omega)⟩
    case round =>
      clear HB
      obtain ⟨k, hk, rfl, HB, hno⟩ := hrel
      by_cases hlt : k < n
      · obtain ⟨b, o, A3, n3, c3, rfl, _, hbl, i1, i2, i3, hpl, z0, z1, z2, z3, _⟩ := H.out.stripe_at hlt
        have hlx : n3 ≤ 100000 := by have := hpl.len; have := HX.out _ (getD_mem (d := default) (show k < l.length by have := HL.out; omega)); omega
        have HFOUND := Lib.hid (fun hf : shiftP f e (l.getD k default) = true => (show R = (needOf y f e (l.getD k default), true) from by
          have h1 := idxOf_some (d := default) (show k < l.length by have := HL.out; omega) hf hno.out
          rw [HRR.out, h1, if_pos (by omega), Int.toNat_natCast]))
        have HNEXT := Lib.hid (fun (hf : shiftP f e (l.getD k default) = false) j (hj : j < k + 1) => (show shiftP f e (l.getD j default) = false from by
          rcases Nat.lt_or_ge j k with hjk | hjk
          · exact hno.out j hjk
          · obtain rfl : j = k := by omega
            exact hf))
        have hsp : shiftP f e (l.getD k default) = (decide (0 ≤ onX (l.getD k default).place f) && decide (onX (l.getD k default).place e < 0)) := rfl
        generalize l.getD k default = x at *
        have HON := Lib.hid (fun V (hV : Below W0.heap.size W0 V) (d : Int) => refOn_c (w := V) (x := x) (d := d) (hpl.all hV))
        have HQI := Lib.hid (onX_I64 (l := x.place) (d := (f : Int)) (by have := hpl.len; omega))
        have HSPX := Lib.hid hsp; clear hsp
        have XC := Lib.hid (fun V (hV : Below W0.heap.size W0 V) => (show V.cell? ⟨b, o + k * 4, none⟩ = some (.int .i64 x.id) ∧ V.cell? ⟨b, o + k * 4 + 1, none⟩ = some (.int .i64 x.len) ∧ V.cell? ⟨b, o + k * 4 + 2, none⟩ = some (.int .i64 x.gen) ∧ V.cell? ⟨b, o + k * 4 + 3, none⟩ = some (.slice A3 n3 c3) from
          ⟨(hV.cell (p := ⟨b, o + k * 4, none⟩) hbl).trans z0, (hV.cell (p := ⟨b, o + k * 4 + 1, none⟩) hbl).trans z1, (hV.cell (p := ⟨b, o + k * 4 + 2, none⟩) hbl).trans z2, (hV.cell (p := ⟨b, o + k * 4 + 3, none⟩) hbl).trans z3⟩))
        clear z0 z1 z2 z3 i1 i2 i3 hpl
        obtain ⟨z0, z1, z2, z3⟩ := XC.out wr HB.out
        have hq := HON.out wr HB.out (f : Int)
        have HQ1 := Lib.hid hq; clear hq
        go_wp2_with fail
        refine HQ1.out.mono ?_
        clear HQ1 z0 z1 z2 z3
        rintro r w5 ⟨rfl, hb5⟩
        have HB5 := Lib.hid (HB.out.trans (hb5.mono HB.out.size)); clear hb5 HB
        generalize hqq : onX x.place f = q at *
        by_cases hq0 : 0 ≤ q
        · obtain ⟨z0, z1, z2, z3⟩ := XC.out w5 HB5.out
          have HQ1 := Lib.hid (HON.out w5 HB5.out (e : Int))
          have HQQ := Lib.hid hqq; clear hqq
          go_wp2_with fail
          refine HQ1.out.mono ?_
          clear HQ1 z0 z1 z2 z3
          rintro r wr ⟨rfl, hb6⟩
          have HB := Lib.hid (HB5.out.trans (hb6.mono HB5.out.size)); clear hb6 HB5
          generalize hqe : onX x.place e = qe2 at *
          by_cases hq1 : qe2 < 0
          · have HRES : Hid (R = (needOf y f e x, true)) := Lib.hid (HFOUND.out (by rw [HSPX.out, decide_eq_true hq0, decide_eq_true hq1]; rfl))
            have HQ : Hid (I64 q ∧ I64 (Slot.mk e ps).disk ∧ I64 (Slot.mk e ps).pos) := Lib.hid ⟨HQI.out, by show I64 (e : Int); unfold I64; omega, pI⟩
            have BOXR := Lib.hid (fun V (hV : Below wr.heap.size wr V) => ROW1.out V (HB.out.trans (hV.mono HB.out.size)))
            have HBW : Hid (w.heap.size + 1 < wr.heap.size) := Lib.hid (by have := HB.out.size; have := HBW0.out; omega)
            have hne2 : needOf y f e x = ⟨x.id, [q], [⟨e, ps⟩]⟩ := by rw [HPS.out]; show Need.mk _ [onX x.place f] _ = _; rw [HQQ.out]
            have HNE := Lib.hid hne2; clear hne2 hqe
            have CEL := Lib.hid (fun w6 (hb : Below wr.heap.size wr w6) => And.intro (ROW.out w6 (HB.out.trans (hb.mono HB.out.size))).2 (And.intro (((HB.out.trans (hb.mono HB.out.size)).cell (p := ⟨b1, o1 + e, none⟩) hbl1).trans qe) (And.intro (((HB.out.trans (hb.mono HB.out.size)).cell (p := ⟨be, oe, none⟩) hble).trans qp) (XC.out w6 (HB.out.trans (hb.mono HB.out.size))).1)))
            go_wp2_with fail
            refine region_free (by kernel_rfl) (by kernel_rfl) 61 rfl [42, 43, 44, 45, 46, 47, 48, 49, 50, 51, 52, 53, 54, 55, 56, 57, 58, 59, 5] [6, 16, 18] [(48, 6), (58, 16)]
              [(42, [], fun _ => (.slice (some ⟨b, o, none⟩) n c)), (43, [], fun _ => .int .i64 (k : Int)), (44, [], fun _ => .pointer (some ⟨b, o + k * 4, none⟩)), (45, [], fun _ => .pointer (some ⟨b, o + k * 4, none⟩)), (46, [], fun _ => .int .i64 x.id), (47, [], fun _ => .int .i64 q), (49, [], fun _ => .int .i64 (e : Int)), (50, [], fun _ => (.pointer (some ⟨w.heap.size, 1, none⟩))), (51, [], fun _ => (.slice (some ⟨b1, o1, none⟩) n1 c1)), (52, [], fun _ => .int .i64 (e : Int)), (53, [], fun _ => .pointer (some ⟨b1, o1 + e, none⟩)), (54, [], fun _ => .slice (some ⟨be, oe, none⟩) ne ce), (55, [], fun _ => .pointer (some ⟨be, oe, none⟩)), (56, [], fun _ => .int .i64 ps), (57, [], fun _ => .agg #[.int .i64 (e : Int), .int .i64 ps]), (59, [6, 16], fun l => .agg #[.int .i64 x.id, l.getD 0 undef, l.getD 1 undef]), (5, [], fun _ => .bool true)]
              [[18], [18], [18], [18], [18], [18], [18], [18], [18], [18], [18], [18], [18], [18], [18], [18], [18], [18]] [[], [], [], [], [], [], [], [], [], [], [], [], [], [], [], [], [], [], [6, 16]] [[], [], [42, 43], [44], [45], [], [47], [], [], [50], [], [51, 52], [53], [54], [55], [49, 56], [57], [46, 48, 58], [59], []]
              (WdS wr (RSh q e ps wr) 18 (stN (w.heap.size + 1) x.id 6 16)) (by kernel_rfl) .init ⟨?_, ?_, ?_, ?_, ?_, ?_, ?_, ?_, ?_, ?_, ?_, ?_, ?_, ?_, ?_, ?_, ?_, ?_, ?_, ?_, trivial⟩ ?_
            -- FAST20 cdot
            · (refine OpH.rd rfl rfl (fun ρ us w6 ho ht hc hl hsrc hW => ?_); have e0 := (ho 0 rfl).trans (show _ = ((.slice (some ⟨b, o, none⟩) n c) : Value) from rfl); clear ht ho; simp only [execOp, e0]; go_simp; try rfl)
            · (refine OpH.rd rfl rfl (fun ρ us w6 ho ht hc hl hsrc hW => ?_); have e8 := (ho 8 rfl).trans (show _ = (.int .i64 (k : Int) : Value) from rfl); clear ht ho; simp only [execOp, e8]; go_simp; try rfl)
            · (refine OpH.rd rfl rfl (fun ρ us w6 ho ht hc hl hsrc hW => ?_); have e42 := (ht 42 (by decide)).trans (show _ = ((.slice (some ⟨b, o, none⟩) n c) : Value) from rfl); have e43 := (ht 43 (by decide)).trans (show _ = (.int .i64 (k : Int) : Value) from rfl); clear ht ho; simp only [execOp, e42, e43]; go_simp; try rfl)
            · (refine OpH.rd rfl rfl (fun ρ us w6 ho ht hc hl hsrc hW => ?_); have e44 := (ht 44 (by decide)).trans (show _ = (.pointer (some ⟨b, o + k * 4, none⟩) : Value) from rfl); clear ht ho; simp only [execOp, e44]; go_simp; try rfl)
            · (refine OpH.rd rfl rfl (fun ρ us w6 ho ht hc hl hsrc hW => ?_); have e45 := (ht 45 (by decide)).trans (show _ = (.pointer (some ⟨b, o + k * 4, none⟩) : Value) from rfl); have hb6 := (hW.early (hl 18 (by decide))).1; obtain ⟨y1, ye, yp, yi⟩ := CEL.out w6 hb6; clear hb6; clear ht ho; simp only [execOp, e45]; go_simp; try rfl)
            · (refine OpH.rd rfl rfl (fun ρ us w6 ho ht hc hl hsrc hW => ?_); have e9 := (ho 9 rfl).trans (show _ = (.int .i64 q : Value) from rfl); clear ht ho; simp only [execOp, e9]; go_simp; try rfl)
            · refine OpH.wr rfl (fun Z us w6 ho ht hni hlim hreq hW K hK => ?_)
              have e47 := (ht 47 (by decide)).trans (show _ = (.int .i64 q : Value) from rfl)
              have hn := hlim 18 (by decide)
              have hdone := hW.snoc (i := 6) (x := .slice (some ⟨w6.heap.size, 0, none⟩) 1 1) (by decide) hn ((Below.refl _ _).alloc (Nat.le_refl _) (.cells #[.int .i64 q] 3)) (fun j v h => RSh.all ((Below.refl _ _).alloc (Nat.le_refl _) _) j v h) ⟨fun _ => ⟨_, rfl, (hW.early hn).1.size, heap_alloc_new _ _⟩, fun h => absurd h (by decide)⟩
              have HDN := Lib.hid hdone; clear hdone hW hni hlim hreq ho ht hn
              rw [if_pos (by simp [Region.wanted])]
              unfold Oper.wp
              generalize Z.eval = ρ at *
              simp only [execOp, List.map_toArray, List.map_cons, List.map_nil, e47]
              go_simp
              exact hK _ _ HDN.out
            · (refine OpH.rd rfl rfl (fun ρ us w6 ho ht hc hl hsrc hW => ?_); have e7 := (ho 7 rfl).trans (show _ = (.int .i64 (e : Int) : Value) from rfl); clear ht ho; simp only [execOp, e7]; go_simp; try rfl)
            · (refine OpH.rd rfl rfl (fun ρ us w6 ho ht hc hl hsrc hW => ?_); have e3 := (ho 3 rfl).trans (show _ = ((.pointer (some ⟨w.heap.size, 0, none⟩)) : Value) from rfl); clear ht ho; simp only [execOp, e3]; go_simp; try rfl)
            · (refine OpH.rd rfl rfl (fun ρ us w6 ho ht hc hl hsrc hW => ?_); have e50 := (ht 50 (by decide)).trans (show _ = ((.pointer (some ⟨w.heap.size, 1, none⟩)) : Value) from rfl); have hb6 := (hW.early (hl 18 (by decide))).1; obtain ⟨y1, ye, yp, yi⟩ := CEL.out w6 hb6; clear hb6; clear ht ho; simp only [execOp, e50]; go_simp; try rfl)
            · (refine OpH.rd rfl rfl (fun ρ us w6 ho ht hc hl hsrc hW => ?_); have e7 := (ho 7 rfl).trans (show _ = (.int .i64 (e : Int) : Value) from rfl); clear ht ho; simp only [execOp, e7]; go_simp; try rfl)
            · (refine OpH.rd rfl rfl (fun ρ us w6 ho ht hc hl hsrc hW => ?_); have e51 := (ht 51 (by decide)).trans (show _ = ((.slice (some ⟨b1, o1, none⟩) n1 c1) : Value) from rfl); have e52 := (ht 52 (by decide)).trans (show _ = (.int .i64 (e : Int) : Value) from rfl); clear ht ho; simp only [execOp, e51, e52]; go_simp; try rfl)
            · (refine OpH.rd rfl rfl (fun ρ us w6 ho ht hc hl hsrc hW => ?_); have e53 := (ht 53 (by decide)).trans (show _ = (.pointer (some ⟨b1, o1 + e, none⟩) : Value) from rfl); have hb6 := (hW.early (hl 18 (by decide))).1; obtain ⟨y1, ye, yp, yi⟩ := CEL.out w6 hb6; clear hb6; clear ht ho; simp only [execOp, e53]; go_simp; try rfl)
            · (refine OpH.rd rfl rfl (fun ρ us w6 ho ht hc hl hsrc hW => ?_); have e54 := (ht 54 (by decide)).trans (show _ = (.slice (some ⟨be, oe, none⟩) ne ce : Value) from rfl); clear ht ho; simp only [execOp, e54]; go_simp; try rfl)
            · (refine OpH.rd rfl rfl (fun ρ us w6 ho ht hc hl hsrc hW => ?_); have e55 := (ht 55 (by decide)).trans (show _ = (.pointer (some ⟨be, oe, none⟩) : Value) from rfl); have hb6 := (hW.early (hl 18 (by decide))).1; obtain ⟨y1, ye, yp, yi⟩ := CEL.out w6 hb6; clear hb6; clear ht ho; simp only [execOp, e55]; go_simp; try rfl)
            · (refine OpH.rd rfl rfl (fun ρ us w6 ho ht hc hl hsrc hW => ?_); have e49 := (ht 49 (by decide)).trans (show _ = (.int .i64 (e : Int) : Value) from rfl); have e56 := (ht 56 (by decide)).trans (show _ = (.int .i64 ps : Value) from rfl); clear ht ho; simp only [execOp]; go_simp; try rfl)
            · refine OpH.wr rfl (fun Z us w6 ho ht hni hlim hreq hW K hK => ?_)
              have e57 := (ht 57 (by decide)).trans (show _ = (.agg #[.int .i64 (e : Int), .int .i64 ps] : Value) from rfl)
              have hn := hlim 18 (by decide)
              have hdone := hW.snoc (i := 16) (x := .slice (some ⟨w6.heap.size, 0, none⟩) 1 1) (by decide) hn ((Below.refl _ _).alloc (Nat.le_refl _) (.cells #[.int .i64 (e : Int), .int .i64 ps] 104)) (fun j v h => RSh.all ((Below.refl _ _).alloc (Nat.le_refl _) _) j v h) ⟨fun h => absurd h (by decide), fun _ => ⟨_, rfl, (hW.early hn).1.size, heap_alloc_new _ _⟩⟩
              have HDN := Lib.hid hdone; clear hdone hW hni hlim hreq ho ht hn
              rw [if_pos (by simp [Region.wanted])]
              unfold Oper.wp
              generalize Z.eval = ρ at *
              simp only [execOp, List.map_toArray, List.map_cons, List.map_nil, e57]
              go_simp
              exact hK _ _ HDN.out
            · refine OpH.rd rfl rfl (fun ρ us w6 ho ht hc hl hsrc hW => ?_)
              have hE := hW.early (hl 18 (by decide))
              obtain ⟨v6, l6, m6⟩ := lookup_mem (hsrc 6 (by exact (by decide : (6 : Nat) ∈ [6, 16])))
              obtain ⟨v16, l16, m16⟩ := lookup_mem (hsrc 16 (by exact (by decide : (16 : Nat) ∈ [6, 16])))
              obtain ⟨g6, rfl, _, _⟩ := (hE.2 6 v6 m6).1 rfl
              obtain ⟨g16, rfl, _, _⟩ := (hE.2 16 v16 m16).2 rfl
              have e46 := (ht 46 (by decide)).trans (show _ = (.int .i64 x.id : Value) from rfl)
              have e48 := ((ht 48 (by decide)).trans (show _ = (us.lookup 6).getD undef from rfl)).trans (show _ = (.slice (some ⟨g6, 0, none⟩) 1 1 : Value) by rw [l6]; rfl)
              have e58 := ((ht 58 (by decide)).trans (show _ = (us.lookup 16).getD undef from rfl)).trans (show _ = (.slice (some ⟨g16, 0, none⟩) 1 1 : Value) by rw [l16]; rfl)
              change _ = Result.ok (Next.value (.agg #[.int .i64 x.id, (us.lookup 6).getD undef, (us.lookup 16).getD undef])) w6
              rw [l6, l16]
              clear ht ho hl hsrc hW hE l6 l16 m6 m16
              simp only [execOp, List.map_toArray, List.map_cons, List.map_nil, e46, e48, e58]
              go_simp
            · refine OpH.wr rfl (fun Z us w6 ho ht hni hlim hreq hW K hK => ?_)
              have hE := hW.early hni
              obtain ⟨v6, l6, m6⟩ := lookup_mem (hreq 6 (by decide))
              obtain ⟨v16, l16, m16⟩ := lookup_mem (hreq 16 (by decide))
              obtain ⟨g6, rfl, hg6, r6⟩ := (hE.2 6 v6 m6).1 rfl
              obtain ⟨g16, rfl, hg16, r16⟩ := (hE.2 16 v16 m16).2 rfl
              have e4 := (ho 4 rfl).trans (show _ = (.pointer (some ⟨w.heap.size + 1, 0, none⟩) : Value) from rfl)
              have e59 := ((ht 59 (by decide)).trans (show _ = (.agg #[.int .i64 x.id, (us.lookup 6).getD undef, (us.lookup 16).getD undef] : Value) from rfl)).trans (show _ = (.agg #[.int .i64 x.id, .slice (some ⟨g6, 0, none⟩) 1 1, .slice (some ⟨g16, 0, none⟩) 1 1] : Value) by rw [l6, l16]; rfl)
              have hst : stN (w.heap.size + 1) x.id 6 16 us w6 = setAll (w.heap.size + 1) 0 [.int .i64 x.id, .slice (some ⟨g6, 0, none⟩) 1 1, .slice (some ⟨g16, 0, none⟩) 1 1] w6 := by unfold stN; rw [l6, l16]; rfl
              have hdone := hW.store hni (x := undef)
              rw [hst] at hdone
              have hr := BOXR.out w6 hE.1
              have f0 := (cell_of_row w6 _ 0 _ _ _ hr).trans (show _ = some (Value.int .i64 0) from rfl)
              have f1 := (cell_of_row w6 _ 1 _ _ _ hr).trans (show _ = some (Value.slice none 0 0) from rfl)
              have f2 := (cell_of_row w6 _ 2 _ _ _ hr).trans (show _ = some (Value.slice none 0 0) from rfl)
              have f4 := frozen_of_row w6 _ 0 _ _ hr
              have f5 := frozen_of_row w6 _ 1 _ _ hr
              have f6 := frozen_of_row w6 _ 2 _ _ hr
              have HDN := Lib.hid hdone; clear hdone hW hni hlim hreq ho ht hst hr l6 l16 m6 m16 r6 r16 hE
              rw [if_pos (by simp [Region.wanted])]
              unfold Oper.wp
              generalize Z.eval = ρ at *
              simp only [execOp, e4, e59]
              go_simp
              exact hK undef _ HDN.out
            · (refine OpH.rd rfl rfl (fun ρ us w6 ho ht hc hl hsrc hW => ?_); clear ht ho; simp only [execOp]; go_simp; try rfl)
            -- TSAF
            · intro us w9 hmem hW
              obtain ⟨us0, W6, x0, rfl, rfl, hb, hR, hn1⟩ := hW.last (hmem 18 (by decide))
              obtain ⟨v6, l6, m6⟩ := lookup_mem (before_mid (hmem 6 (by decide)) (by decide))
              obtain ⟨v16, l16, m16⟩ := lookup_mem (before_mid (hmem 16 (by decide)) (by decide))
              obtain ⟨g6, rfl, hg6, r6⟩ := (hR 6 v6 m6).1 rfl
              obtain ⟨g16, rfl, hg16, r16⟩ := (hR 16 v16 m16).2 rfl
              have hst : stN (w.heap.size + 1) x.id 6 16 us0 W6 = setAll (w.heap.size + 1) 0 [.int .i64 x.id, .slice (some ⟨g6, 0, none⟩) 1 1, .slice (some ⟨g16, 0, none⟩) 1 1] W6 := by unfold stN; rw [l6, l16]; rfl
              rw [hst]
              have hrow := setAll_3 (a := .int .i64 x.id) (b := .slice (some ⟨g6, 0, none⟩) 1 1) (c := .slice (some ⟨g16, 0, none⟩) 1 1) (BOXR.out W6 hb)
              have q6 := (setAll_other (g := w.heap.size + 1) (show g6 ≠ w.heap.size + 1 by have := HBW.out; omega) [.int .i64 x.id, .slice (some ⟨g6, 0, none⟩) 1 1, .slice (some ⟨g16, 0, none⟩) 1 1] 0 W6).trans r6
              have q16 := (setAll_other (g := w.heap.size + 1) (show g16 ≠ w.heap.size + 1 by have := HBW.out; omega) [.int .i64 x.id, .slice (some ⟨g6, 0, none⟩) 1 1, .slice (some ⟨g16, 0, none⟩) 1 1] 0 W6).trans r16
              have hBB := setAll_below (g := w.heap.size + 1) (m := w.heap.size) (by omega) [.int .i64 x.id, .slice (some ⟨g6, 0, none⟩) 1 1, .slice (some ⟨g16, 0, none⟩) 1 1] 0 W6 (HALL.out _ (HB.out.trans (hb.mono HB.out.size)))
              simp only [putAll, List.map_cons, List.map_nil, List.foldl_cons, List.foldl_nil, Act.put, List.setIfInBounds_toArray, List.set_cons_succ, List.set_cons_zero]
              generalize hsv : slotAt _ _ _ = sv
              have hs : sv 5 = .bool true := by rw [← hsv]; rfl
              rw [hs]
              clear hsv hs hst hb hR hn1 hW hmem l6 l16 m6 m16 r6 r16 CEL
              generalize setAll (w.heap.size + 1) 0 [.int .i64 x.id, .slice (some ⟨g6, 0, none⟩) 1 1, .slice (some ⟨g16, 0, none⟩) 1 1] W6 = w9 at *
              have HFIN : Hid (RetNd w (needOf y f e x) (.bool true) (.returned (.tuple #[.agg #[.int .i64 x.id, .slice (some ⟨g6, 0, none⟩) 1 1, .slice (some ⟨g16, 0, none⟩) 1 1], .bool true])) w9) := Lib.hid
                (by rw [HNE.out]; exact ⟨_, _, _, _, _, _, rfl, (sl_one_int (HQ.out.1) q6).mono (fun b hb _ => by have := HBW.out; have : b = g6 := hb; omega), (sl_one_slot (p := ⟨(e : Int), ps⟩) HQ.out.2 q16).mono (fun b hb _ => by have := HBW.out; have : b = g16 := hb; omega), hBB⟩)
              have p0 := cell_of_row _ _ 0 _ _ _ hrow
              have p1 := cell_of_row _ _ 1 _ _ _ hrow
              have p2 := cell_of_row _ _ 2 _ _ _ hrow
              clear hrow q6 q16 hBB
              go_wp2
              refine bodyPost_ret (v := .tuple #[.agg #[.int .i64 x.id, .slice (some ⟨g6, 0, none⟩) 1 1, .slice (some ⟨g16, 0, none⟩) 1 1], .bool true]) (by simp [results, Try.results70, go_sem, *]; done) rfl ?_
              rw [HRES.out]
              exact HFIN.out
          · have HF := Lib.hid (HNEXT.out (by rw [HSPX.out, decide_eq_true hq0, decide_eq_false hq1]; rfl))
            clear hqe
            go_wp2
            exact ⟨⟨k + 1, by omega, by go_num, HB, HF⟩, by simp [intOf]; omega⟩
        · have HF := Lib.hid (HNEXT.out (by rw [HSPX.out, decide_eq_false hq0]; rfl))
          clear hqq
          go_wp2
          exact ⟨⟨k + 1, by omega, by go_num, HB5, HF⟩, by simp [intOf]; omega⟩
      · have HRES : Hid (R = (noNeed, false)) := Lib.hid (by rw [HRR.out, idxOf_none (d := default) (fun j hj => hno.out j (by have := HL.out; omega)), if_neg (by decide)])
        have hrow := ROW1.out wr HB.out
        have f0 := (cell_of_row wr _ 0 _ _ _ hrow).trans (show _ = some (Value.int .i64 0) from rfl)
        have f1 := (cell_of_row wr _ 1 _ _ _ hrow).trans (show _ = some (Value.slice none 0 0) from rfl)
        have f2 := (cell_of_row wr _ 2 _ _ _ hrow).trans (show _ = some (Value.slice none 0 0) from rfl)
        have f4 := frozen_of_row wr _ 0 _ _ hrow
        have f5 := frozen_of_row wr _ 1 _ _ hrow
        have f6 := frozen_of_row wr _ 2 _ _ hrow
        have hsame : Hid (((wr.setCell ⟨w.heap.size + 1, 0, none⟩ (.int .i64 0)).setCell ⟨w.heap.size + 1, 1, none⟩ (.slice none 0 0)).setCell ⟨w.heap.size + 1, 2, none⟩ (.slice none 0 0) = wr) := Lib.hid (by
          rw [setCell_same (k := 0) (v := (.int .i64 0)) hrow rfl, setCell_same (k := 1) (v := (.slice none 0 0)) hrow rfl, setCell_same (k := 2) (v := (.slice none 0 0)) hrow rfl])
        clear hrow
        go_wp2
        rw [hsame.out]
        refine bodyPost_ret (v := .tuple #[.agg #[.int .i64 0, .slice none 0 0, .slice none 0 0], .bool false]) (by simp [results, Try.results70, go_sem, *]; done) rfl ?_
        rw [HRES.out]
        exact RetNd.no (HALL.out _ HB.out)
end Go.Proofs.Ytfccghfcilccfaa
