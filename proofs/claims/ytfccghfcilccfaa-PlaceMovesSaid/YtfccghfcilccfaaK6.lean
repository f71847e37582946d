/- siloref16.Moved: a stripe behind what was written, and the slots that are free. Printed by gen_k6.py. -/
import Derived.Test.YtfccghfcilccfaaF2
import Derived.Test.YtfccghfcilccfaaZd
import Derived.Test.YtfccghfcilccfaaE10
-- from K5
namespace Go.Silo
open Go Go.RowKit
/-- A store of a slot into a slice's element. -/
theorem Sl.setSlot {T : TypeId} {w : World} {S : Nat → Prop} {b off n c : Nat} {xs : List Slot} (h : Sl true T slotE w S (some ⟨b, off, none⟩) n c xs) {k : Nat} (hk : k < n) {p : Slot} (hp : I64 p.disk ∧ I64 p.pos) :
    Sl true T slotE ((w.setCell ⟨b, off + k * 2, none⟩ (.int .i64 p.disk)).setCell ⟨b, off + k * 2 + 1, none⟩ (.int .i64 p.pos)) S (some ⟨b, off, none⟩) n c (xs.set k p) := by
  obtain ⟨h1, h2, h3, h4⟩ := h
  obtain ⟨b', off', e, hb, hlt, ht, hx⟩ := h4 (by omega)
  injection e with e; injection e with e1 e2 _; subst e1; subst e2
  obtain ⟨q, hq⟩ := ht rfl
  refine ⟨by rw [List.length_set]; exact h1, h2, h3, fun hn => ⟨b, off, rfl, hb, by simpa using hlt, fun _ => ⟨q, by rw [shape_setCell, shape_setCell]; exact hq⟩, fun j z hj => ?_⟩⟩
  have hjl := (List.getElem?_eq_some_iff.1 hj).1
  rw [List.length_set] at hjl
  by_cases hjk : j = k
  · subst hjk
    rw [List.getElem?_set_self (by omega)] at hj
    injection hj with hj
    subst hj
    obtain ⟨z0, hz0⟩ : ∃ z0, xs[j]? = some z0 := ⟨_, List.getElem?_eq_getElem (by omega)⟩
    obtain ⟨vs, ⟨rfl, _⟩, hc⟩ := hx j z0 hz0
    have q0 := hc 0 _ rfl
    have q1 := hc 1 _ rfl
    simp only [slotE, flat, Nat.add_zero] at q0 q1
    refine ⟨[.int .i64 p.disk, .int .i64 p.pos], ⟨rfl, hp⟩, fun i u hi => ?_⟩
    match i, hi with
    | 0, hi =>
      injection hi with hi; subst hi
      show World.cell? _ ⟨b, off + j * 2 + 0, none⟩ = _ ∧ World.frozen? _ ⟨b, off + j * 2 + 0, none⟩ = _
      rw [Nat.add_zero]
      exact ⟨by rw [World.cell?_setCell_other _ _ _ _ (by simp)]; exact World.cell?_setCell_same _ _ _ q0.1, by rw [World.frozen?_setCell, World.frozen?_setCell]; exact q0.2⟩
    | 1, hi =>
      injection hi with hi; subst hi
      show World.cell? _ ⟨b, off + j * 2 + 1, none⟩ = _ ∧ World.frozen? _ ⟨b, off + j * 2 + 1, none⟩ = _
      exact ⟨World.cell?_setCell_same _ _ _ (by rw [World.cell?_setCell_other _ _ _ _ (by simp)]; exact q1.1), by rw [World.frozen?_setCell, World.frozen?_setCell]; exact q1.2⟩
  · rw [List.getElem?_set_ne (Ne.symm hjk)] at hj
    obtain ⟨vs, ⟨rfl, hi64⟩, hc⟩ := hx j z hj
    refine ⟨_, ⟨rfl, hi64⟩, fun i u hi => ?_⟩
    have hcc := hc i u hi
    have hi2 : i < 2 := by have := (List.getElem?_eq_some_iff.1 hi).1; simpa using this
    simp only [slotE, flat] at hcc ⊢
    exact ⟨by rw [World.cell?_setCell_other _ _ _ _ (by simp <;> omega), World.cell?_setCell_other _ _ _ _ (by simp <;> omega)]; exact hcc.1, by rw [World.frozen?_setCell, World.frozen?_setCell]; exact hcc.2⟩
end Go.Silo
namespace Go.Proofs.Ytfccghfcilccfaa
open Go.RowKit Go.Silo

/-- The three boxes. -/
structure M3 (w : World) (vn : List Value) (x : Stripe) (A : Option Addr) (n c : Nat) (u0 u1 u2 u3 : Value) (V : World) : Prop where
  b0 : V.heap[w.heap.size]? = some (.cells #[.int .i64 x.id, .int .i64 x.len, .int .i64 x.gen, .slice A n c] 79 (0, 0))
  b1 : V.heap[w.heap.size + 1]? = some (.cells vn.toArray 88 (0, 0))
  b2 : V.heap[w.heap.size + 2]? = some (.cells #[u0, u1, u2, u3] 79 (0, 0))
  below : Below w.heap.size w V
section
variable {w : World} {vn : List Value} {x : Stripe} {A A' : Option Addr} {n c n' c' : Nat} {u0 u1 u2 u3 : Value} {V V' : World}
theorem M3.hi (h : M3 w vn x A n c u0 u1 u2 u3 V) : w.heap.size + 2 < V.heap.size := (Array.getElem?_eq_some_iff.1 h.b2).1
theorem M3.frame (h : M3 w vn x A n c u0 u1 u2 u3 V) (hb : ∀ b, b ≤ w.heap.size + 2 → V'.heap[b]? = V.heap[b]?) (hB : Below w.heap.size w V') : M3 w vn x A n c u0 u1 u2 u3 V' :=
  ⟨(hb _ (by omega)).trans h.b0, (hb _ (by omega)).trans h.b1, (hb _ (by omega)).trans h.b2, hB⟩
theorem M3.all (h : M3 w vn x A n c u0 u1 u2 u3 V) (hb : Below V.heap.size V V') : M3 w vn x A n c u0 u1 u2 u3 V' :=
  h.frame (fun b hb' => hb.block b (by have := h.hi; omega)) (h.below.trans (hb.mono (by have := h.hi; omega)))
theorem M3.set (h : M3 w vn x A n c u0 u1 u2 u3 V) {a : Addr} (ha : w.heap.size + 3 ≤ a.block) (v : Value) : M3 w vn x A n c u0 u1 u2 u3 (V.setCell a v) :=
  h.frame (fun b hb => Below.heap_setCell _ _ _ _ (by omega)) (h.below.setCell (by omega) _)
theorem M3.st0 (h : M3 w vn x A n c u0 u1 u2 u3 V) : M3 w vn x A' n' c' u0 u1 u2 u3 ((((V.setCell ⟨w.heap.size, 0, none⟩ (.int .i64 x.id)).setCell ⟨w.heap.size, 1, none⟩ (.int .i64 x.len)).setCell ⟨w.heap.size, 2, none⟩ (.int .i64 x.gen)).setCell ⟨w.heap.size, 3, none⟩ (.slice A' n' c')) := by
  have hb : ∀ b, b ≠ w.heap.size → ((((V.setCell ⟨w.heap.size, 0, none⟩ (.int .i64 x.id)).setCell ⟨w.heap.size, 1, none⟩ (.int .i64 x.len)).setCell ⟨w.heap.size, 2, none⟩ (.int .i64 x.gen)).setCell ⟨w.heap.size, 3, none⟩ (.slice A' n' c')).heap[b]? = V.heap[b]? := fun b hb => by rw [Below.heap_setCell _ _ _ _ hb, Below.heap_setCell _ _ _ _ hb, Below.heap_setCell _ _ _ _ hb, Below.heap_setCell _ _ _ _ hb]
  have hl : w.heap.size ≤ w.heap.size := Nat.le_refl _
  exact ⟨by have := h.b0; simp [World.setCell, Array.getElem?_modify, this], (hb _ (by omega)).trans h.b1, (hb _ (by omega)).trans h.b2, (((h.below.setCell hl _).setCell hl _).setCell hl _).setCell hl _⟩
theorem M3.c0 (h : M3 w vn x A n c u0 u1 u2 u3 V) : V.cell? ⟨w.heap.size, 0, none⟩ = some (.int .i64 x.id) ∧ V.cell? ⟨w.heap.size, 1, none⟩ = some (.int .i64 x.len) ∧ V.cell? ⟨w.heap.size, 2, none⟩ = some (.int .i64 x.gen) ∧ V.cell? ⟨w.heap.size, 3, none⟩ = some (.slice A n c) :=
  ⟨cell_of_row V _ 0 _ _ _ h.b0, cell_of_row V _ 1 _ _ _ h.b0, cell_of_row V _ 2 _ _ _ h.b0, cell_of_row V _ 3 _ _ _ h.b0⟩
theorem M3.f0 (h : M3 w vn x A n c u0 u1 u2 u3 V) : V.frozen? ⟨w.heap.size, 0, none⟩ = false ∧ V.frozen? ⟨w.heap.size, 1, none⟩ = false ∧ V.frozen? ⟨w.heap.size, 2, none⟩ = false ∧ V.frozen? ⟨w.heap.size, 3, none⟩ = false :=
  ⟨frozen_of_row V _ 0 _ _ h.b0, frozen_of_row V _ 1 _ _ h.b0, frozen_of_row V _ 2 _ _ h.b0, frozen_of_row V _ 3 _ _ h.b0⟩
theorem M3.cn {m s1 s2 : Value} (h : M3 w [m, s1, s2] x A n c u0 u1 u2 u3 V) : V.cell? ⟨w.heap.size + 1, 0, none⟩ = some m ∧ V.cell? ⟨w.heap.size + 1, 1, none⟩ = some s1 ∧ V.cell? ⟨w.heap.size + 1, 2, none⟩ = some s2 :=
  ⟨cell_of_row V _ 0 _ _ _ h.b1, cell_of_row V _ 1 _ _ _ h.b1, cell_of_row V _ 2 _ _ _ h.b1⟩
theorem M3.c2 (h : M3 w vn x A n c u0 u1 u2 u3 V) : (V.cell? ⟨w.heap.size + 2, 0, none⟩ = some u0 ∧ V.cell? ⟨w.heap.size + 2, 1, none⟩ = some u1 ∧ V.cell? ⟨w.heap.size + 2, 2, none⟩ = some u2 ∧ V.cell? ⟨w.heap.size + 2, 3, none⟩ = some u3) ∧ V.frozen? ⟨w.heap.size + 2, 0, none⟩ = false ∧ V.frozen? ⟨w.heap.size + 2, 1, none⟩ = false ∧ V.frozen? ⟨w.heap.size + 2, 2, none⟩ = false ∧ V.frozen? ⟨w.heap.size + 2, 3, none⟩ = false :=
  ⟨⟨cell_of_row V _ 0 _ _ _ h.b2, cell_of_row V _ 1 _ _ _ h.b2, cell_of_row V _ 2 _ _ _ h.b2, cell_of_row V _ 3 _ _ _ h.b2⟩, frozen_of_row V _ 0 _ _ h.b2, frozen_of_row V _ 1 _ _ h.b2, frozen_of_row V _ 2 _ _ h.b2, frozen_of_row V _ 3 _ _ h.b2⟩
end

set_option maxRecDepth 100000 in
set_option maxHeartbeats 8000000 in
theorem refmoved_c {tg tg0 tg1 : Bool} {S S0 S1 : Nat → Prop} {w : World} {Ap A0 A1 : Option Addr} {np cp n0 c0 n1 c1 : Nat} {x : Stripe} {nd : Need}
    (hxI : I64 x.id ∧ I64 x.len ∧ I64 x.gen) (hp : Sl tg 104 slotE w S Ap np cp x.place) (h0 : Sl tg0 3 intE w S0 A0 n0 c0 nd.index) (h1 : Sl tg1 104 slotE w S1 A1 n1 c1 nd.to)
    (hnp : np ≤ 100000) (hn01 : n0 = n1) (hix : ∀ j, j < nd.index.length → ∃ i : Nat, nd.index.getD j 0 = (i : Int) ∧ i < x.place.length) :
    Calls Try.prog 122 #[.agg #[.int .i64 x.id, .int .i64 x.len, .int .i64 x.gen, .slice Ap np cp], .agg #[.int .i64 nd.stripe, .slice A0 n0 c0, .slice A1 n1 c1]] w (RetE (stripeE true) w (movedX x nd)) := by
  subst hn01
  have HLP := Lib.hid hp.len
  have HL0 := Lib.hid h0.len
  have hcap0 : n0 ≤ 9223372036854775807 := Nat.le_trans h0.le h0.cap
  have HP := Lib.hid (fun W (hW : Below w.heap.size w W) => hp.all hW)
  have HI := Lib.hid (fun W (hW : Below w.heap.size w W) => h0.all hW)
  have HTO := Lib.hid (fun W (hW : Below w.heap.size w W) => h1.all hW)
  have HIX := Lib.hid hix; clear hix
  have HXI := Lib.hid hxI; clear hxI
  clear h0 h1 hp
  have hM : M3 w [.int .i64 nd.stripe, .slice A0 n0 c0, .slice A1 n0 c1] x Ap np cp (.int .i64 0) (.int .i64 0) (.int .i64 0) (.slice none 0 0) (((w.alloc (.cells #[.int .i64 x.id, .int .i64 x.len, .int .i64 x.gen, .slice Ap np cp] 79)).alloc (.cells #[.int .i64 nd.stripe, .slice A0 n0 c0, .slice A1 n0 c1] 88)).alloc (.cells #[.int .i64 0, .int .i64 0, .int .i64 0, .slice none 0 0] 79)) := by
    refine ⟨?_, ?_, ?_, (by repeat' (first | (with_reducible exact Below.refl _ _) | (with_reducible refine Below.alloc ?_ ?_ _) | (with_reducible refine Below.drew ?_) | (with_reducible refine below_drewN ?_ _) | (with_reducible refine Below.setCell ?_ ?_ _) | (refine via ?_ (by with_reducible assumption) ?_) | (refine via ?_ (below_ext _ _) ?_) | go_size))⟩
    · rw [Below.heap_alloc _ _ _ (by first | (simp; done) | (simp; omega)), Below.heap_alloc _ _ _ (by first | (simp; done) | (simp; omega))]; exact heap_alloc_new _ _
    · rw [Below.heap_alloc _ _ _ (by first | (simp; done) | (simp; omega))]
      have := heap_alloc_new (w.alloc (.cells #[.int .i64 x.id, .int .i64 x.len, .int .i64 x.gen, .slice Ap np cp] 79)) (.cells #[.int .i64 nd.stripe, .slice A0 n0 c0, .slice A1 n0 c1] 88)
      rw [World.size_alloc] at this; exact this
    · have := heap_alloc_new ((w.alloc (.cells #[.int .i64 x.id, .int .i64 x.len, .int .i64 x.gen, .slice Ap np cp] 79)).alloc (.cells #[.int .i64 nd.stripe, .slice A0 n0 c0, .slice A1 n0 c1] 88)) (.cells #[.int .i64 0, .int .i64 0, .int .i64 0, .slice none 0 0] 79)
      rw [World.size_alloc, World.size_alloc] at this; exact this
  go_enter Try.func122, Try.ntmps122
  go_upto_region 1 with (fail)
  have HM0 := Lib.hid hM; clear hM
  generalize (((w.alloc (.cells #[.int .i64 x.id, .int .i64 x.len, .int .i64 x.gen, .slice Ap np cp] 79)).alloc (.cells #[.int .i64 nd.stripe, .slice A0 n0 c0, .slice A1 n0 c1] 88)).alloc (.cells #[.int .i64 0, .int .i64 0, .int .i64 0, .slice none 0 0] 79)) = W0 at *
  obtain ⟨x0, x1, x2, x3⟩ := HM0.out.c0
  have HCP := Lib.hid (CopyStripe_c (w := W0) (x := x) HXI.out (HP.out W0 HM0.out.below) (by omega))
  go_wp2_with fail
  refine HCP.out.mono ?_
  clear HCP x0 x1 x2 x3
  rintro e w1 ⟨vs, rfl, ⟨Aq, nq, cq, rfl, hok, t0⟩, hb1⟩
  have hnq : np = nq := by have := t0.len; have := HLP.out; omega
  subst hnq
  have HM1 := Lib.hid (HM0.out.all hb1)
  have s0 := HM0.out.hi
  have HT0 := Lib.hid t0; clear t0
  have HM2 := Lib.hid (HM1.out.st0 (A' := Aq) (n' := np) (c' := cq))
  have hk : Keeps (fun b => W0.heap.size ≤ b) w1 ((((w1.setCell ⟨w.heap.size, 0, none⟩ (.int .i64 x.id)).setCell ⟨w.heap.size, 1, none⟩ (.int .i64 x.len)).setCell ⟨w.heap.size, 2, none⟩ (.int .i64 x.gen)).setCell ⟨w.heap.size, 3, none⟩ (.slice Aq np cq)) := (by repeat' (first | (with_reducible exact Keeps.refl _ _) | (with_reducible refine Keeps.alloc ?_ _) | (with_reducible refine Keeps.drew ?_) | (with_reducible refine Keeps.drewN ?_ _) | (with_reducible refine Keeps.setCell ?_ ?_ _) | (refine Keeps.call ?_ (by with_reducible assumption)) | (with_reducible refine Keeps.ext ?_ _) | (simp; done) | (simp; omega) | omega))
  have HT2 := Lib.hid (HT0.out.keep hk)
  obtain ⟨x0, x1, x2, x3⟩ := HM1.out.c0
  obtain ⟨f0, f1, f2, f3⟩ := HM1.out.f0
  clear hk HT0
  go_upto_region 2 with (fail)
  clear x0 x1 x2 x3 f0 f1 f2 f3
  generalize ((((w1.setCell ⟨w.heap.size, 0, none⟩ (.int .i64 x.id)).setCell ⟨w.heap.size, 1, none⟩ (.int .i64 x.len)).setCell ⟨w.heap.size, 2, none⟩ (.int .i64 x.gen)).setCell ⟨w.heap.size, 3, none⟩ (.slice Aq np cq)) = w2 at *
  clear HM1 hb1 HM0
  go_wp2_with fail
  go_loopw [5] (fun i wr => ∃ k : Nat, k ≤ n0 ∧ i = .int .i64 k ∧ Hid (M3 w [.int .i64 nd.stripe, .slice A0 n0 c0, .slice A1 n0 c1] x Aq np cq (.int .i64 0) (.int .i64 0) (.int .i64 0) (.slice none 0 0) wr) ∧ Hid (Sl true 104 slotE wr (fun b => W0.heap.size ≤ b) Aq np cq (movP x nd k))) (fun i _ => n0 - (intOf i).toNat)
  case atStart => exact ⟨0, Nat.zero_le _, rfl, HM2, HT2⟩
  case round =>
    clear HM2 HT2
    obtain ⟨k, hk, rfl, HM, HP1⟩ := hrel
    by_cases hlt : k < n0
    · obtain ⟨iN, hiN, hiL⟩ := HIX.out k (by have := HL0.out; omega)
      rw [HLP.out] at hiL
      have hdd : Below wr.heap.size wr wr.drew := (Below.refl _ _).drew
      have HMD := Lib.hid (HM.out.all hdd)
      have HPD := Lib.hid (HP1.out.all hdd)
      obtain ⟨bi, oi, rfl, _, hbi, _, hci, _⟩ := (HI.out wr.drew HMD.out.below).int_at hlt
      rw [hiN] at hci
      obtain ⟨bt, ot, rfl, _, hbt, pt1, pt2, hct0, hct1, _⟩ := (HTO.out wr.drew HMD.out.below).slot_at hlt
      obtain ⟨g, og, rfl, hgS, hbg, pq1, pq2, hcq0, hcq1, hfq0, hfq1⟩ := HPD.out.slot_at hiL
      have hg3 : w.heap.size + 3 ≤ g := by have : W0.heap.size ≤ g := hgS; omega
      have hmp : movP x nd (k + 1) = (movP x nd k).set iN (nd.to.getD k default) := by show (movP x nd k).set (nd.index.getD k 0).toNat _ = _; rw [hiN]; rfl
      have hp9 := HPD.out.setSlot hiL (p := nd.to.getD k default) ⟨pt1, pt2⟩
      rw [← hmp] at hp9
      generalize nd.to.getD k default = p at *
      generalize ((movP x nd k).getD iN default) = q at *
      have HP9 := Lib.hid hp9
      have HM9 := Lib.hid ((HMD.out.set (a := ⟨g, og + iN * 2, none⟩) hg3 (.int .i64 p.disk)).set (a := ⟨g, og + iN * 2 + 1, none⟩) hg3 (.int .i64 p.pos))
      obtain ⟨y0, y1, y2⟩ := HM.out.cn
      clear hp9 hmp hdd hiN
      go_wp2_with fail
      clear y0 y1 y2
      refine region_free (by kernel_rfl) (by kernel_rfl) 29 rfl [15, 16, 17, 18, 19, 20, 21, 22, 23, 24, 25, 26, 27] [13] []
        [(15, [], fun _ => (.pointer (some ⟨w.heap.size, 3, none⟩))), (16, [], fun _ => .slice (some ⟨g, og, none⟩) np cq), (17, [], fun _ => (.pointer (some ⟨w.heap.size + 1, 1, none⟩))), (18, [], fun _ => .slice (some ⟨bi, oi, none⟩) n0 c0), (19, [], fun _ => .int .i64 (k : Int)), (20, [], fun _ => .pointer (some ⟨bi, oi + k, none⟩)), (21, [], fun _ => .int .i64 (iN : Int)), (22, [], fun _ => (.pointer (some ⟨w.heap.size + 1, 2, none⟩))), (23, [], fun _ => .slice (some ⟨bt, ot, none⟩) n0 c1), (24, [], fun _ => .int .i64 (k : Int)), (25, [], fun _ => .pointer (some ⟨bt, ot + k * 2, none⟩)), (26, [], fun _ => .agg #[.int .i64 p.disk, .int .i64 p.pos]), (27, [], fun _ => .pointer (some ⟨g, og + iN * 2, none⟩))]
        [[13], [13], [13], [13], [13], [13], [13], [13], [13], [13], [13], [13], [13]] [] [[], [15], [], [17], [], [18, 19], [20], [], [22], [], [23, 24], [25], [16, 21], [27, 26]]
        (Wd1 wr.drew 13 ((wr.drew.setCell ⟨g, og + iN * 2, none⟩ (.int .i64 p.disk)).setCell ⟨g, og + iN * 2 + 1, none⟩ (.int .i64 p.pos))) (by kernel_rfl) .pre ⟨?_, ?_, ?_, ?_, ?_, ?_, ?_, ?_, ?_, ?_, ?_, ?_, ?_, ?_, trivial⟩ ?_
      · (refine OpH.rd rfl rfl (fun ρ us w6 ho ht hc hl hsrc hW => ?_); have e2 := (ho 2 rfl).trans (show _ = ((.pointer (some ⟨w.heap.size, 0, none⟩)) : Value) from rfl); clear ht ho; simp only [execOp, e2]; go_simp; try rfl)
      · (refine OpH.rd rfl rfl (fun ρ us w6 ho ht hc hl hsrc hW => ?_); have e15 := (ht 15 (by decide)).trans (show _ = ((.pointer (some ⟨w.heap.size, 3, none⟩)) : Value) from rfl); obtain ⟨rfl, rfl⟩ := hW.early (hl 13 (by decide)); obtain ⟨_, _, _, x3⟩ := HMD.out.c0; clear ht ho; simp only [execOp, e15]; go_simp; try rfl)
      · (refine OpH.rd rfl rfl (fun ρ us w6 ho ht hc hl hsrc hW => ?_); have e3 := (ho 3 rfl).trans (show _ = ((.pointer (some ⟨w.heap.size + 1, 0, none⟩)) : Value) from rfl); clear ht ho; simp only [execOp, e3]; go_simp; try rfl)
      · (refine OpH.rd rfl rfl (fun ρ us w6 ho ht hc hl hsrc hW => ?_); have e17 := (ht 17 (by decide)).trans (show _ = ((.pointer (some ⟨w.heap.size + 1, 1, none⟩)) : Value) from rfl); obtain ⟨rfl, rfl⟩ := hW.early (hl 13 (by decide)); obtain ⟨y0, y1, y2⟩ := HMD.out.cn; clear ht ho; simp only [execOp, e17]; go_simp; try rfl)
      · (refine OpH.rd rfl rfl (fun ρ us w6 ho ht hc hl hsrc hW => ?_); have e5 := (ho 5 rfl).trans (show _ = (.int .i64 (k : Int) : Value) from rfl); clear ht ho; simp only [execOp, e5]; go_simp; try rfl)
      · (refine OpH.rd rfl rfl (fun ρ us w6 ho ht hc hl hsrc hW => ?_); have e18 := (ht 18 (by decide)).trans (show _ = (.slice (some ⟨bi, oi, none⟩) n0 c0 : Value) from rfl); have e19 := (ht 19 (by decide)).trans (show _ = (.int .i64 (k : Int) : Value) from rfl); clear ht ho; simp only [execOp, e18, e19]; go_simp; try rfl)
      · (refine OpH.rd rfl rfl (fun ρ us w6 ho ht hc hl hsrc hW => ?_); have e20 := (ht 20 (by decide)).trans (show _ = (.pointer (some ⟨bi, oi + k, none⟩) : Value) from rfl); obtain ⟨rfl, rfl⟩ := hW.early (hl 13 (by decide)); clear ht ho; simp only [execOp, e20]; go_simp; try rfl)
      · (refine OpH.rd rfl rfl (fun ρ us w6 ho ht hc hl hsrc hW => ?_); have e3 := (ho 3 rfl).trans (show _ = ((.pointer (some ⟨w.heap.size + 1, 0, none⟩)) : Value) from rfl); clear ht ho; simp only [execOp, e3]; go_simp; try rfl)
      · (refine OpH.rd rfl rfl (fun ρ us w6 ho ht hc hl hsrc hW => ?_); have e22 := (ht 22 (by decide)).trans (show _ = ((.pointer (some ⟨w.heap.size + 1, 2, none⟩)) : Value) from rfl); obtain ⟨rfl, rfl⟩ := hW.early (hl 13 (by decide)); obtain ⟨y0, y1, y2⟩ := HMD.out.cn; clear ht ho; simp only [execOp, e22]; go_simp; try rfl)
      · (refine OpH.rd rfl rfl (fun ρ us w6 ho ht hc hl hsrc hW => ?_); have e5 := (ho 5 rfl).trans (show _ = (.int .i64 (k : Int) : Value) from rfl); clear ht ho; simp only [execOp, e5]; go_simp; try rfl)
      · (refine OpH.rd rfl rfl (fun ρ us w6 ho ht hc hl hsrc hW => ?_); have e23 := (ht 23 (by decide)).trans (show _ = (.slice (some ⟨bt, ot, none⟩) n0 c1 : Value) from rfl); have e24 := (ht 24 (by decide)).trans (show _ = (.int .i64 (k : Int) : Value) from rfl); clear ht ho; simp only [execOp, e23, e24]; go_simp; try rfl)
      · (refine OpH.rd rfl rfl (fun ρ us w6 ho ht hc hl hsrc hW => ?_); have e25 := (ht 25 (by decide)).trans (show _ = (.pointer (some ⟨bt, ot + k * 2, none⟩) : Value) from rfl); obtain ⟨rfl, rfl⟩ := hW.early (hl 13 (by decide)); clear ht ho; simp only [execOp, e25]; go_simp; try rfl)
      · (refine OpH.rd rfl rfl (fun ρ us w6 ho ht hc hl hsrc hW => ?_); have e16 := (ht 16 (by decide)).trans (show _ = (.slice (some ⟨g, og, none⟩) np cq : Value) from rfl); have e21 := (ht 21 (by decide)).trans (show _ = (.int .i64 (iN : Int) : Value) from rfl); clear ht ho; simp only [execOp, e16, e21]; go_simp; try rfl)
      · refine OpH.wr rfl (fun Z us w6 ho ht hni hlim hreq hW K hK => ?_)
        obtain ⟨rfl, ew⟩ := hW.early hni
        rw [← ew] at hcq0 hcq1 hfq0 hfq1
        have e26 := (ht 26 (by decide)).trans (show _ = (.agg #[.int .i64 p.disk, .int .i64 p.pos] : Value) from rfl)
        have e27 := (ht 27 (by decide)).trans (show _ = (.pointer (some ⟨g, og + iN * 2, none⟩) : Value) from rfl)
        have HK : Hid (K (Z.put none undef) ((w6.setCell ⟨g, og + iN * 2, none⟩ (.int .i64 p.disk)).setCell ⟨g, og + iN * 2 + 1, none⟩ (.int .i64 p.pos))) := Lib.hid (by rw [ew]; exact hK undef _ .post)
        clear hK hW hni hlim hreq ho ht ew
        rw [if_pos (by simp [Region.wanted])]
        unfold Oper.wp
        generalize Z.eval = ρ at *
        simp only [execOp, e26, e27]
        go_simp
        exact HK.out
      · intro us w9 hmem hW
        obtain rfl := hW.done (hmem 13 (by decide))
        simp only [putAll, List.map_cons, List.map_nil, List.foldl_cons, List.foldl_nil, Act.put, List.setIfInBounds_toArray, List.set_cons_succ, List.set_cons_zero]
        clear hmem hW hcq0 hcq1 hfq0 hfq1
        generalize ((wr.drew.setCell ⟨g, og + iN * 2, none⟩ (.int .i64 p.disk)).setCell ⟨g, og + iN * 2 + 1, none⟩ (.int .i64 p.pos)) = w9 at *
        generalize hsv : slotAt _ _ us = sv
        clear hsv
        go_wp2
        exact ⟨⟨k + 1, by omega, by go_num, HM9, HP9⟩, by simp [intOf]; omega⟩
    · obtain rfl : k = n0 := by omega
      obtain ⟨x0, x1, x2, x3⟩ := HM.out.c0
      obtain ⟨⟨f0, f1, f2, f3⟩, f4, f5, f6, f7⟩ := HM.out.c2
      obtain ⟨y0, y1, y2⟩ := HM.out.cn
      have hz6 := HM.out.hi
      have hk : Keeps (fun b => W0.heap.size ≤ b) wr ((((wr.setCell ⟨w.heap.size + 2, 0, none⟩ (.int .i64 x.id)).setCell ⟨w.heap.size + 2, 1, none⟩ (.int .i64 x.len)).setCell ⟨w.heap.size + 2, 2, none⟩ (.int .i64 x.gen)).setCell ⟨w.heap.size + 2, 3, none⟩ (.slice Aq np cq)) := (by repeat' (first | (with_reducible exact Keeps.refl _ _) | (with_reducible refine Keeps.alloc ?_ _) | (with_reducible refine Keeps.drew ?_) | (with_reducible refine Keeps.drewN ?_ _) | (with_reducible refine Keeps.setCell ?_ ?_ _) | (refine Keeps.call ?_ (by with_reducible assumption)) | (with_reducible refine Keeps.ext ?_ _) | (simp; done) | (simp; omega) | omega))
      have HFIN : Hid (RetE (stripeE true) w (movedX x nd) (.returned (.agg #[.int .i64 x.id, .int .i64 x.len, .int .i64 x.gen, .slice Aq np cq])) ((((wr.setCell ⟨w.heap.size + 2, 0, none⟩ (.int .i64 x.id)).setCell ⟨w.heap.size + 2, 1, none⟩ (.int .i64 x.len)).setCell ⟨w.heap.size + 2, 2, none⟩ (.int .i64 x.gen)).setCell ⟨w.heap.size + 2, 3, none⟩ (.slice Aq np cq))) := Lib.hid
        ⟨[.int .i64 x.id, .int .i64 x.len, .int .i64 x.gen, .slice Aq np cq], rfl, ⟨Aq, np, cq, rfl, HXI.out, by
          have := (HP1.out.keep hk).mono (S' := fun b => w.heap.size ≤ b) (fun b hb _ => by have : W0.heap.size ≤ b := hb; omega)
          show Sl _ _ _ _ _ _ _ _ (movP x nd nd.index.length)
          rw [HL0.out]; exact this⟩, (((HM.out.below.setCell (by show w.heap.size ≤ w.heap.size + 2; omega) _).setCell (by show w.heap.size ≤ w.heap.size + 2; omega) _).setCell (by show w.heap.size ≤ w.heap.size + 2; omega) _).setCell (by show w.heap.size ≤ w.heap.size + 2; omega) _⟩
      have hrow : ((((wr.setCell ⟨w.heap.size + 2, 0, none⟩ (.int .i64 x.id)).setCell ⟨w.heap.size + 2, 1, none⟩ (.int .i64 x.len)).setCell ⟨w.heap.size + 2, 2, none⟩ (.int .i64 x.gen)).setCell ⟨w.heap.size + 2, 3, none⟩ (.slice Aq np cq)).heap[w.heap.size + 2]? = some (.cells #[.int .i64 x.id, .int .i64 x.len, .int .i64 x.gen, .slice Aq np cq] 79 (0, 0)) := by
        have := HM.out.b2
        simp [World.setCell, Array.getElem?_modify, this]
      clear hk
      go_wp2
      have q0 := cell_of_row _ _ 0 _ _ _ hrow
      have q1 := cell_of_row _ _ 1 _ _ _ hrow
      have q2 := cell_of_row _ _ 2 _ _ _ hrow
      have q3 := cell_of_row _ _ 3 _ _ _ hrow
      clear hrow f0 f1 f2 f3 f4 f5 f6 f7 x0 x1 x2 x3 y0 y1 y2
      generalize ((((wr.setCell ⟨w.heap.size + 2, 0, none⟩ (.int .i64 x.id)).setCell ⟨w.heap.size + 2, 1, none⟩ (.int .i64 x.len)).setCell ⟨w.heap.size + 2, 2, none⟩ (.int .i64 x.gen)).setCell ⟨w.heap.size + 2, 3, none⟩ (.slice Aq np cq)) = w7 at *
      refine bodyPost_ret (v := .agg #[.int .i64 x.id, .int .i64 x.len, .int .i64 x.gen, .slice Aq np cq]) (by simp [results, Try.results122, go_sem, *]; done) rfl ?_
      exact HFIN.out
end Go.Proofs.Ytfccghfcilccfaa
namespace Go.Proofs.Ytfccghfcilccfaa
open Go.RowKit Go.Silo

theorem M3.grown {row : Option Nat} {w : World} {vn : List Value} {x : Stripe} {A : Option Addr} {n c : Nat} {u0 u1 u2 u3 : Value} {V V' : World} (h : M3 w vn x A n c u0 u1 u2 u3 V) (hg : V.grownBy V' row) (hr : ∀ r, row = some r → w.heap.size + 3 ≤ r) : M3 w vn x A n c u0 u1 u2 u3 V' :=
  h.frame (fun b hb => hg.block b (by have := h.hi; omega) (fun e => by have := hr b e.symm; omega)) (h.below.grown hg (by have := h.hi; omega) (fun r hr' => by have := hr r hr'; omega))
/-- The page's free slots behind the first k pieces. -/
def pfree (x : Stripe) (nd : Need) : Nat → List Slot
  | 0 => []
  | k + 1 => pfree x nd k ++ if 0 ≤ (x.place.getD (nd.index.getD k 0).toNat default).disk then [x.place.getD (nd.index.getD k 0).toNat default] else []
theorem pfree_le (x : Stripe) (nd : Need) : ∀ k, (pfree x nd k).length ≤ k
  | 0 => Nat.le_refl _
  | k + 1 => by
    have := pfree_le x nd k
    show (pfree x nd k ++ _).length ≤ _
    rw [List.length_append]
    split <;> simp <;> omega
/-- Two results: a stripe, and slots. -/
def RetMM (w : World) (x : Stripe) (l : List Slot) (e : Ending) (w' : World) : Prop :=
  ∃ A n c B m d, e = .returned (.tuple #[.agg #[.int .i64 x.id, .int .i64 x.len, .int .i64 x.gen, .slice A n c], .slice B m d]) ∧ Sl true 104 slotE w' (fun b => w.heap.size ≤ b) A n c x.place ∧ Sl true 104 slotE w' (fun b => w.heap.size ≤ b) B m d l ∧ Below w.heap.size w w'
/-- The worlds of the append's region. -/
inductive WdF (V : World) (base : Nat) (A : Option Addr) (k : Nat) (xs : List Slot) (q : Slot) : List (Nat × Value) → World → Prop
  | n0 {W : World} : Below V.heap.size V W → WdF V base A k xs q [] W
  | nb {W : World} {b : Nat} : Below V.heap.size V W → W.heap[b]? = some (.cells #[.int .i64 q.disk, .int .i64 q.pos] 104 (0, 0)) → WdF V base A k xs q [(10, .slice (some ⟨b, 0, none⟩) 1 1)] W
  | done {W W' : World} {x : Value} {A' : Option Addr} {c' : Nat} : Below V.heap.size V W → W.grownBy W' (ablk A) → Own 104 slotE W' base (fun _ => False) A' (k + 1) c' (xs ++ [q]) → WdF V base A k xs q [(10, x), (11, .slice A' (k + 1) c')] W'
theorem WdF.keep {V W : World} {base : Nat} {A : Option Addr} {k : Nat} {xs : List Slot} {q : Slot} {us : List (Nat × Value)} (h : WdF V base A k xs q us W) {b : Nat} (hb : b < V.heap.size) (hne : some b ≠ ablk A) : W.heap[b]? = V.heap[b]? := by
  cases h with
  | n0 h => exact h.block b hb
  | nb h _ => exact h.block b hb
  | done h hg _ => exact (hg.block b (Nat.lt_of_lt_of_le hb h.size) hne).trans (h.block b hb)

set_option maxRecDepth 100000 in
set_option maxHeartbeats 8000000 in
theorem refMoved_c {tg tg0 tg1 : Bool} {S S0 S1 : Nat → Prop} {w : World} {Ap A0 A1 : Option Addr} {np cp n0 c0 n1 c1 : Nat} {x : Stripe} {nd : Need}
    (hxI : I64 x.id ∧ I64 x.len ∧ I64 x.gen) (hp : Sl tg 104 slotE w S Ap np cp x.place) (h0 : Sl tg0 3 intE w S0 A0 n0 c0 nd.index) (h1 : Sl tg1 104 slotE w S1 A1 n1 c1 nd.to)
    (hnp : np ≤ 100000) (hn0 : n0 ≤ 100000) (hn01 : n0 = n1) (hix : ∀ j, j < nd.index.length → ∃ i : Nat, nd.index.getD j 0 = (i : Int) ∧ i < x.place.length) :
    Calls Try.prog 73 #[.agg #[.int .i64 x.id, .int .i64 x.len, .int .i64 x.gen, .slice Ap np cp], .agg #[.int .i64 nd.stripe, .slice A0 n0 c0, .slice A1 n1 c1]] w (RetMM w (movedX x nd) (pfree x nd nd.index.length)) := by
  subst hn01
  obtain ⟨i0, hi0, hz0, hz1, hz2⟩ := info_parts Try.info_Slot
  have HLP := Lib.hid hp.len
  have HL0 := Lib.hid h0.len
  have HP := Lib.hid (fun W (hW : Below w.heap.size w W) => hp.lt_block.all hW)
  have HI := Lib.hid (fun W (hW : Below w.heap.size w W) => h0.lt_block.all hW)
  have HMV := Lib.hid (fun W (hW : Below w.heap.size w W) => refmoved_c (w := W) (x := x) (nd := nd) hxI (hp.all hW) (h0.all hW) (h1.all hW) hnp rfl hix)
  have HIX := Lib.hid hix; clear hix
  clear h0 h1 hp
  have hM : M3 w [.int .i64 nd.stripe, .slice A0 n0 c0, .slice A1 n0 c1] x Ap np cp (.int .i64 0) (.int .i64 0) (.int .i64 0) (.slice none 0 0) (((w.alloc (.cells #[.int .i64 x.id, .int .i64 x.len, .int .i64 x.gen, .slice Ap np cp] 79)).alloc (.cells #[.int .i64 nd.stripe, .slice A0 n0 c0, .slice A1 n0 c1] 88)).alloc (.cells #[.int .i64 0, .int .i64 0, .int .i64 0, .slice none 0 0] 79)) := by
    refine ⟨?_, ?_, ?_, (by repeat' (first | (with_reducible exact Below.refl _ _) | (with_reducible refine Below.alloc ?_ ?_ _) | (with_reducible refine Below.drew ?_) | (with_reducible refine below_drewN ?_ _) | (with_reducible refine Below.setCell ?_ ?_ _) | (refine via ?_ (by with_reducible assumption) ?_) | (refine via ?_ (below_ext _ _) ?_) | go_size))⟩
    · rw [Below.heap_alloc _ _ _ (by first | (simp; done) | (simp; omega)), Below.heap_alloc _ _ _ (by first | (simp; done) | (simp; omega))]; exact heap_alloc_new _ _
    · rw [Below.heap_alloc _ _ _ (by first | (simp; done) | (simp; omega))]
      have := heap_alloc_new (w.alloc (.cells #[.int .i64 x.id, .int .i64 x.len, .int .i64 x.gen, .slice Ap np cp] 79)) (.cells #[.int .i64 nd.stripe, .slice A0 n0 c0, .slice A1 n0 c1] 88)
      rw [World.size_alloc] at this; exact this
    · have := heap_alloc_new ((w.alloc (.cells #[.int .i64 x.id, .int .i64 x.len, .int .i64 x.gen, .slice Ap np cp] 79)).alloc (.cells #[.int .i64 nd.stripe, .slice A0 n0 c0, .slice A1 n0 c1] 88)) (.cells #[.int .i64 0, .int .i64 0, .int .i64 0, .slice none 0 0] 79)
      rw [World.size_alloc, World.size_alloc] at this; exact this
  go_enter Try.func73, Try.ntmps73
  go_upto_region 1 with (fail)
  have HM0 := Lib.hid hM; clear hM
  generalize (((w.alloc (.cells #[.int .i64 x.id, .int .i64 x.len, .int .i64 x.gen, .slice Ap np cp] 79)).alloc (.cells #[.int .i64 nd.stripe, .slice A0 n0 c0, .slice A1 n0 c1] 88)).alloc (.cells #[.int .i64 0, .int .i64 0, .int .i64 0, .slice none 0 0] 79)) = W0 at *
  go_wp2_with fail
  go_loopw [7, 6] (fun i f wr => ∃ k : Nat, ∃ F d, k ≤ n0 ∧ i = .int .i64 k ∧ f = .slice F (pfree x nd k).length d ∧ Hid (M3 w [.int .i64 nd.stripe, .slice A0 n0 c0, .slice A1 n0 c1] x Ap np cp (.int .i64 0) (.int .i64 0) (.int .i64 0) (.slice none 0 0) wr) ∧ Hid (Own 104 slotE wr (w.heap.size + 3) (fun _ => False) F (pfree x nd k).length d (pfree x nd k))) (fun i _ _ => n0 - (intOf i).toNat)
  case atStart => exact ⟨0, none, 0, Nat.zero_le _, rfl, rfl, HM0, Lib.hid Own.nil_⟩
  case round =>
    clear HM0
    obtain ⟨k, F, d, hk, rfl, rfl, HM, HFO⟩ := hrel
    obtain ⟨y0, y1, y2⟩ := HM.out.cn
    by_cases hlt : k < n0
    · obtain ⟨iN, hiN, hiL⟩ := HIX.out k (by have := HL0.out; omega)
      rw [HLP.out] at hiL
      obtain ⟨bi, oi, rfl, hSi, hbi, _, hci, _⟩ := (HI.out wr HM.out.below).int_at hlt
      rw [hiN] at hci
      obtain ⟨bp, op, rfl, hSp, hbp, pq1, pq2, hcq0, hcq1, _⟩ := (HP.out wr HM.out.below).slot_at hiL
      have hbi2 : bi < w.heap.size := hSi.2
      have hbp2 : bp < w.heap.size := hSp.2
      have hsuc : pfree x nd (k + 1) = pfree x nd k ++ if 0 ≤ (x.place.getD iN default).disk then [x.place.getD iN default] else [] := by
        show pfree x nd k ++ (if 0 ≤ (x.place.getD (nd.index.getD k 0).toNat default).disk then [x.place.getD (nd.index.getD k 0).toNat default] else []) = _
        rw [hiN]; rfl
      generalize x.place.getD iN default = q at *
      have HSU0 := Lib.hid hsuc; clear hsuc hiN
      have HQI := Lib.hid (show I64 q.disk ∧ I64 q.pos from ⟨pq1, pq2⟩); clear pq1 pq2
      have hfl := pfree_le x nd k
      have hwr := HM.out.hi
      have z3' := HM.out.c0.2.2.2
      have CEL := Lib.hid (fun w6 (hb : Below wr.heap.size wr w6) => And.intro ((hb.cell (p := ⟨w.heap.size, 3, none⟩) (show w.heap.size < wr.heap.size by omega)).trans z3') (And.intro ((hb.cell (p := ⟨w.heap.size + 1, 1, none⟩) (show w.heap.size + 1 < wr.heap.size by omega)).trans y1) (And.intro ((hb.cell (p := ⟨bi, oi + k, none⟩) hbi).trans hci) (And.intro ((hb.cell (p := ⟨bp, op + iN * 2, none⟩) hbp).trans hcq0) ((hb.cell (p := ⟨bp, op + iN * 2 + 1, none⟩) hbp).trans hcq1)))))
      have HB0 := Lib.hid (Below.refl wr.heap.size wr)
      clear hci hcq0 hcq1 z3'
      go_wp2_with fail
      clear y0 y1 y2
      refine region_free (by kernel_rfl) (by kernel_rfl) 42 rfl [15, 16, 17, 18, 19, 20, 21, 22, 23, 24, 25] [] []
        [(15, [], fun _ => (.pointer (some ⟨w.heap.size, 3, none⟩))), (16, [], fun _ => .slice (some ⟨bp, op, none⟩) np cp), (17, [], fun _ => (.pointer (some ⟨w.heap.size + 1, 1, none⟩))), (18, [], fun _ => .slice (some ⟨bi, oi, none⟩) n0 c0), (19, [], fun _ => .int .i64 (k : Int)), (20, [], fun _ => .pointer (some ⟨bi, oi + k, none⟩)), (21, [], fun _ => .int .i64 (iN : Int)), (22, [], fun _ => .pointer (some ⟨bp, op + iN * 2, none⟩)), (23, [], fun _ => .pointer (some ⟨bp, op + iN * 2, none⟩)), (24, [], fun _ => .int .i64 q.disk), (25, [], fun _ => .bool (decide (0 ≤ q.disk)))]
        [] [] [[], [15], [], [17], [], [18, 19], [20], [16, 21], [22], [23], [24]]
        (WdB wr (fun _ _ _ => True)) (by kernel_rfl) .init ⟨?_, ?_, ?_, ?_, ?_, ?_, ?_, ?_, ?_, ?_, ?_, trivial⟩ ?_
      · (refine OpH.rd rfl rfl (fun ρ us w6 ho ht hc hl hsrc hW => ?_); have e2 := (ho 2 rfl).trans (show _ = ((.pointer (some ⟨w.heap.size, 0, none⟩)) : Value) from rfl); clear ht ho; simp only [execOp, e2]; go_simp; try rfl)
      · (refine OpH.rd rfl rfl (fun ρ us w6 ho ht hc hl hsrc hW => ?_); have e15 := (ht 15 (by decide)).trans (show _ = ((.pointer (some ⟨w.heap.size, 3, none⟩)) : Value) from rfl); obtain ⟨z3, y1, yi, yp, _⟩ := CEL.out w6 hW.1; clear ht ho; simp only [execOp, e15]; go_simp; try rfl)
      · (refine OpH.rd rfl rfl (fun ρ us w6 ho ht hc hl hsrc hW => ?_); have e3 := (ho 3 rfl).trans (show _ = ((.pointer (some ⟨w.heap.size + 1, 0, none⟩)) : Value) from rfl); clear ht ho; simp only [execOp, e3]; go_simp; try rfl)
      · (refine OpH.rd rfl rfl (fun ρ us w6 ho ht hc hl hsrc hW => ?_); have e17 := (ht 17 (by decide)).trans (show _ = ((.pointer (some ⟨w.heap.size + 1, 1, none⟩)) : Value) from rfl); obtain ⟨z3, y1, yi, yp, _⟩ := CEL.out w6 hW.1; clear ht ho; simp only [execOp, e17]; go_simp; try rfl)
      · (refine OpH.rd rfl rfl (fun ρ us w6 ho ht hc hl hsrc hW => ?_); have e7 := (ho 7 rfl).trans (show _ = (.int .i64 (k : Int) : Value) from rfl); clear ht ho; simp only [execOp, e7]; go_simp; try rfl)
      · (refine OpH.rd rfl rfl (fun ρ us w6 ho ht hc hl hsrc hW => ?_); have e18 := (ht 18 (by decide)).trans (show _ = (.slice (some ⟨bi, oi, none⟩) n0 c0 : Value) from rfl); have e19 := (ht 19 (by decide)).trans (show _ = (.int .i64 (k : Int) : Value) from rfl); clear ht ho; simp only [execOp, e18, e19]; go_simp; try rfl)
      · (refine OpH.rd rfl rfl (fun ρ us w6 ho ht hc hl hsrc hW => ?_); have e20 := (ht 20 (by decide)).trans (show _ = (.pointer (some ⟨bi, oi + k, none⟩) : Value) from rfl); obtain ⟨z3, y1, yi, yp, _⟩ := CEL.out w6 hW.1; clear ht ho; simp only [execOp, e20]; go_simp; try rfl)
      · (refine OpH.rd rfl rfl (fun ρ us w6 ho ht hc hl hsrc hW => ?_); have e16 := (ht 16 (by decide)).trans (show _ = (.slice (some ⟨bp, op, none⟩) np cp : Value) from rfl); have e21 := (ht 21 (by decide)).trans (show _ = (.int .i64 (iN : Int) : Value) from rfl); clear ht ho; simp only [execOp, e16, e21]; go_simp; try rfl)
      · (refine OpH.rd rfl rfl (fun ρ us w6 ho ht hc hl hsrc hW => ?_); have e22 := (ht 22 (by decide)).trans (show _ = (.pointer (some ⟨bp, op + iN * 2, none⟩) : Value) from rfl); clear ht ho; simp only [execOp, e22]; go_simp; try rfl)
      · (refine OpH.rd rfl rfl (fun ρ us w6 ho ht hc hl hsrc hW => ?_); have e23 := (ht 23 (by decide)).trans (show _ = (.pointer (some ⟨bp, op + iN * 2, none⟩) : Value) from rfl); obtain ⟨z3, y1, yi, yp, _⟩ := CEL.out w6 hW.1; clear ht ho; simp only [execOp, e23]; go_simp; try rfl)
      · (refine OpH.rd rfl rfl (fun ρ us w6 ho ht hc hl hsrc hW => ?_); have e24 := (ht 24 (by decide)).trans (show _ = (.int .i64 q.disk : Value) from rfl); clear ht ho; simp only [execOp, e24]; go_simp; try rfl)
      · intro us w9 hmem hW
        simp only [putAll, List.map_cons, List.map_nil, List.foldl_cons, List.foldl_nil, Act.put, List.setIfInBounds_toArray, List.set_cons_succ, List.set_cons_zero]
        generalize hsv : slotAt _ _ us = sv
        have hq : sv 25 = .bool (decide (0 ≤ q.disk)) := by rw [← hsv]; rfl
        rw [hq]
        have HB0 := Lib.hid (HB0.out.trans (hW.1.mono HB0.out.size))
        clear hsv hq hmem hW
        generalize w9 = w5 at *
        by_cases hd : 0 ≤ q.disk
        · have HSUC : Hid (pfree x nd (k + 1) = pfree x nd k ++ [q]) := Lib.hid (by rw [HSU0.out, if_pos hd])
          have HM5 := Lib.hid (HM.out.all HB0.out)
          have HF5 := Lib.hid (HFO.out.all HB0.out)
          have hw5 := HM5.out.hi
          have CE6 := Lib.hid (fun us w6 (hW : WdF w5 (w.heap.size + 3) F (pfree x nd k).length (pfree x nd k) q us w6) => (show w6.cell? ⟨w.heap.size, 3, none⟩ = some (.slice (some ⟨bp, op, none⟩) np cp) ∧ w6.cell? ⟨w.heap.size + 1, 1, none⟩ = some (.slice (some ⟨bi, oi, none⟩) n0 c0) ∧ w6.cell? ⟨bi, oi + k, none⟩ = some (.int .i64 (iN : Int)) ∧ w6.cell? ⟨bp, op + iN * 2, none⟩ = some (.int .i64 q.disk) ∧ w6.cell? ⟨bp, op + iN * 2 + 1, none⟩ = some (.int .i64 q.pos) from by
            obtain ⟨a1, a2, a3, a4, a5⟩ := CEL.out w5 HB0.out
            have hlo := fun r hr => (HF5.out.lt r hr).1
            exact ⟨(World.cell?_of_block (a := ⟨w.heap.size, 3, none⟩) (hW.keep (b := w.heap.size) (by omega) (fun e => by have := hlo _ e.symm; omega))).trans a1, (World.cell?_of_block (a := ⟨w.heap.size + 1, 1, none⟩) (hW.keep (b := w.heap.size + 1) (by omega) (fun e => by have := hlo _ e.symm; omega))).trans a2,
              (World.cell?_of_block (a := ⟨bi, oi + k, none⟩) (hW.keep (b := bi) (by omega) (fun e => by have := hlo _ e.symm; omega))).trans a3, (World.cell?_of_block (a := ⟨bp, op + iN * 2, none⟩) (hW.keep (b := bp) (by omega) (fun e => by have := hlo _ e.symm; omega))).trans a4, (World.cell?_of_block (a := ⟨bp, op + iN * 2 + 1, none⟩) (hW.keep (b := bp) (by omega) (fun e => by have := hlo _ e.symm; omega))).trans a5⟩))
          clear CEL HB0 HM HFO
          go_wp2_with fail
          refine region_old (by kernel_rfl) (by kernel_rfl) 42 rfl [26, 27, 28, 29, 30, 31, 32, 33, 34, 35, 36, 37, 6] [10, 11] [(36, 10), (37, 11)]
            [(26, [], fun _ => .slice F (pfree x nd k).length d), (27, [], fun _ => (.pointer (some ⟨w.heap.size, 3, none⟩))), (28, [], fun _ => .slice (some ⟨bp, op, none⟩) np cp), (29, [], fun _ => (.pointer (some ⟨w.heap.size + 1, 1, none⟩))), (30, [], fun _ => .slice (some ⟨bi, oi, none⟩) n0 c0), (31, [], fun _ => .int .i64 (k : Int)), (32, [], fun _ => .pointer (some ⟨bi, oi + k, none⟩)), (33, [], fun _ => .int .i64 (iN : Int)), (34, [], fun _ => .pointer (some ⟨bp, op + iN * 2, none⟩)), (35, [], fun _ => .agg #[.int .i64 q.disk, .int .i64 q.pos]), (6, [11], fun l => l.getD 0 undef)]
            [] [[], [], [], [], [], [], [], [], [], [], [], [10]] [[], [], [27], [], [29], [], [30, 31], [32], [28, 33], [34], [35], [26, 36], [37]] [[6]]
            (WdF w5 (w.heap.size + 3) F (pfree x nd k).length (pfree x nd k) q) (by kernel_rfl) (.n0 (Below.refl _ _).drew) ⟨?_, ?_, ?_, ?_, ?_, ?_, ?_, ?_, ?_, ?_, ?_, ?_, ?_, trivial⟩ ?_
          · (refine OpH.rd rfl rfl (fun ρ us w6 ho ht hc hl hsrc hW => ?_); have e6 := (ho 6 rfl).trans (show _ = (.slice F (pfree x nd k).length d : Value) from rfl); clear ht ho; simp only [execOp, e6]; go_simp; try rfl)
          · (refine OpH.rd rfl rfl (fun ρ us w6 ho ht hc hl hsrc hW => ?_); have e2 := (ho 2 rfl).trans (show _ = ((.pointer (some ⟨w.heap.size, 0, none⟩)) : Value) from rfl); clear ht ho; simp only [execOp, e2]; go_simp; try rfl)
          · (refine OpH.rd rfl rfl (fun ρ us w6 ho ht hc hl hsrc hW => ?_); have e27 := (ht 27 (by decide)).trans (show _ = ((.pointer (some ⟨w.heap.size, 3, none⟩)) : Value) from rfl); obtain ⟨z3, y1, yi, yp, yq⟩ := CE6.out us w6 hW; clear ht ho; simp only [execOp, e27]; go_simp; try rfl)
          · (refine OpH.rd rfl rfl (fun ρ us w6 ho ht hc hl hsrc hW => ?_); have e3 := (ho 3 rfl).trans (show _ = ((.pointer (some ⟨w.heap.size + 1, 0, none⟩)) : Value) from rfl); clear ht ho; simp only [execOp, e3]; go_simp; try rfl)
          · (refine OpH.rd rfl rfl (fun ρ us w6 ho ht hc hl hsrc hW => ?_); have e29 := (ht 29 (by decide)).trans (show _ = ((.pointer (some ⟨w.heap.size + 1, 1, none⟩)) : Value) from rfl); obtain ⟨z3, y1, yi, yp, yq⟩ := CE6.out us w6 hW; clear ht ho; simp only [execOp, e29]; go_simp; try rfl)
          · (refine OpH.rd rfl rfl (fun ρ us w6 ho ht hc hl hsrc hW => ?_); have e7 := (ho 7 rfl).trans (show _ = (.int .i64 (k : Int) : Value) from rfl); clear ht ho; simp only [execOp, e7]; go_simp; try rfl)
          · (refine OpH.rd rfl rfl (fun ρ us w6 ho ht hc hl hsrc hW => ?_); have e30 := (ht 30 (by decide)).trans (show _ = (.slice (some ⟨bi, oi, none⟩) n0 c0 : Value) from rfl); have e31 := (ht 31 (by decide)).trans (show _ = (.int .i64 (k : Int) : Value) from rfl); clear ht ho; simp only [execOp, e30, e31]; go_simp; try rfl)
          · (refine OpH.rd rfl rfl (fun ρ us w6 ho ht hc hl hsrc hW => ?_); have e32 := (ht 32 (by decide)).trans (show _ = (.pointer (some ⟨bi, oi + k, none⟩) : Value) from rfl); obtain ⟨z3, y1, yi, yp, yq⟩ := CE6.out us w6 hW; clear ht ho; simp only [execOp, e32]; go_simp; try rfl)
          · (refine OpH.rd rfl rfl (fun ρ us w6 ho ht hc hl hsrc hW => ?_); have e28 := (ht 28 (by decide)).trans (show _ = (.slice (some ⟨bp, op, none⟩) np cp : Value) from rfl); have e33 := (ht 33 (by decide)).trans (show _ = (.int .i64 (iN : Int) : Value) from rfl); clear ht ho; simp only [execOp, e28, e33]; go_simp; try rfl)
          · (refine OpH.rd rfl rfl (fun ρ us w6 ho ht hc hl hsrc hW => ?_); have e34 := (ht 34 (by decide)).trans (show _ = (.pointer (some ⟨bp, op + iN * 2, none⟩) : Value) from rfl); obtain ⟨z3, y1, yi, yp, yq⟩ := CE6.out us w6 hW; clear ht ho; simp only [execOp, e34]; go_simp; try rfl)
          · refine OpH.wr rfl (fun Z us w6 ho ht hni hlim hreq hW K hK => ?_)
            have e35 := (ht 35 (by decide)).trans (show _ = (.agg #[.int .i64 q.disk, .int .i64 q.pos] : Value) from rfl)
            have key : ∀ g, g = w6.heap.size → WdF w5 (w.heap.size + 3) F (pfree x nd k).length (pfree x nd k) q (us ++ [(10, .slice (some ⟨g, 0, none⟩) 1 1)]) (w6.alloc (.cells #[.int .i64 q.disk, .int .i64 q.pos] 104)) := by
              rintro g rfl
              cases hW with
              | n0 hB => exact .nb (hB.alloc hB.size _) (heap_alloc_new _ _)
              | nb _ _ => exact absurd (by simp) hni
              | done _ _ _ => exact absurd (by simp) hni
            have KEY := Lib.hid key; clear key hW hni hlim hreq ho ht
            rw [if_pos (by simp [Region.wanted])]
            unfold Oper.wp
            generalize Z.eval = ρ at *
            simp only [execOp, List.map_toArray, List.map_cons, List.map_nil, e35]
            go_simp
            exact hK _ _ (KEY.out _ rfl)
          · refine OpH.wr rfl (fun Z us w6 ho ht hni hlim hreq hW K hK => ?_)
            have r10 := hreq 10 (by decide)
            cases hW with
            | n0 _ => exact absurd r10 (by simp)
            | done _ _ _ => exact absurd (by simp) hni
            | @nb _ b hB hrow =>
              have e26 := (ht 26 (by decide)).trans (show _ = (.slice F (pfree x nd k).length d : Value) from rfl)
              have e36 := (ht 36 (by decide)).trans (show _ = (.slice (some ⟨b, 0, none⟩) 1 1 : Value) from rfl)
              have hb := hB.size
              refine step_append1 rfl (.tmp 26) (.tmp 36) 71 rfl i0 (.agg #[.int .i64 0, .int .i64 0]) 16 Try.underlying71 hi0 hz0 hz1 hz2 rfl (by decide) e26 (HF5.out.all hB) b 104 1 [.int .i64 q.disk, .int .i64 q.pos] q e36 hrow ⟨rfl, HQI.out⟩ (by omega) (by omega) (by omega) ?_
              intro A' c' w7 hown hg _
              exact hK _ _ (.done hB hg hown)
          · (refine OpH.rd rfl rfl (fun ρ us w6 ho ht hc hl hsrc hW => ?_); have e37 := (ht 37 (by decide)).trans (show _ = ((us.lookup 11).getD undef : Value) from rfl); clear ht ho; simp only [execOp, e37]; go_simp; try rfl)
          · intro us w7 hmem hW
            have r11 := hmem 11 (by decide)
            cases hW with
            | n0 _ => exact absurd r11 (by simp)
            | nb _ _ => exact absurd r11 (by simp)
            | @done W6 _ xx A' c' hB hg hown =>
            simp only [putAll, List.map_cons, List.map_nil, List.foldl_cons, List.foldl_nil, Act.put, List.setIfInBounds_toArray, List.set_cons_succ, List.set_cons_zero]
            generalize hsv : slotAt _ _ _ = sv
            have h6 : sv 6 = .slice A' ((pfree x nd k).length + 1) c' := by rw [← hsv]; rfl
            rw [h6]
            clear hsv h6
            have HO2 := Lib.hid (show Own 104 slotE w7 (w.heap.size + 3) (fun _ => False) A' (pfree x nd (k + 1)).length c' (pfree x nd (k + 1)) by rw [HSUC.out, List.length_append]; exact hown)
            have HLEN : Hid ((pfree x nd k).length + 1 = (pfree x nd (k + 1)).length) := Lib.hid (by rw [HSUC.out, List.length_append]; rfl)
            have HM2 := Lib.hid ((HM5.out.all hB).grown hg (fun r hr => (HF5.out.lt r hr).1))
            clear hB hg hown hmem r11 CE6
            go_wp2
            exact ⟨⟨k + 1, A', c', by omega, by go_num, by rw [HLEN.out], HM2, HO2⟩, by simp [intOf]; omega⟩
        · have HSUC : Hid (pfree x nd (k + 1) = pfree x nd k) := Lib.hid (by rw [HSU0.out, if_neg hd, List.append_nil])
          have HM5 := Lib.hid (HM.out.all HB0.out)
          have HF5 : Hid (Own 104 slotE w5 (w.heap.size + 3) (fun _ => False) F (pfree x nd (k + 1)).length d (pfree x nd (k + 1)) ∧ (pfree x nd k).length = (pfree x nd (k + 1)).length) := Lib.hid (by rw [HSUC.out]; exact ⟨HFO.out.all HB0.out, rfl⟩)
          clear CEL HB0 HM HFO
          go_wp2
          exact ⟨⟨k + 1, F, d, by omega, by go_num, by rw [HF5.out.2], HM5, Lib.hid HF5.out.1⟩, by simp [intOf]; omega⟩
    · obtain rfl : k = n0 := by omega
      obtain ⟨x0, x1, x2, x3⟩ := HM.out.c0
      have HQ := Lib.hid (HMV.out wr HM.out.below)
      go_wp2_with fail
      refine HQ.out.mono ?_
      clear HQ x0 x1 x2 x3 y0 y1 y2
      rintro e w8 ⟨vs, rfl, ⟨Aq, nq, cq, rfl, hok, t0⟩, hb8⟩
      have HM8 := Lib.hid (HM.out.all hb8)
      have HF8 := Lib.hid (HFO.out.all hb8)
      have hwl := HM.out.hi
      have HT8 := Lib.hid (t0.mono (S' := fun b => w.heap.size + 3 ≤ b) (fun b hb _ => by have : wr.heap.size ≤ b := hb; omega)); clear t0
      clear HM HFO hb8
      obtain ⟨⟨f0, f1, f2, f3⟩, f4, f5, f6, f7⟩ := HM8.out.c2
      have hz6 := HM8.out.hi
      have hlt6 := fun r hr => (HF8.out.lt r hr).1
      have hkk : Keeps (fun b => w.heap.size + 3 ≤ b) w8 ((((w8.setCell ⟨w.heap.size + 2, 0, none⟩ (.int .i64 x.id)).setCell ⟨w.heap.size + 2, 1, none⟩ (.int .i64 x.len)).setCell ⟨w.heap.size + 2, 2, none⟩ (.int .i64 x.gen)).setCell ⟨w.heap.size + 2, 3, none⟩ (.slice Aq nq cq)) := (by repeat' (first | (with_reducible exact Keeps.refl _ _) | (with_reducible refine Keeps.alloc ?_ _) | (with_reducible refine Keeps.drew ?_) | (with_reducible refine Keeps.drewN ?_ _) | (with_reducible refine Keeps.setCell ?_ ?_ _) | (refine Keeps.call ?_ (by with_reducible assumption)) | (with_reducible refine Keeps.ext ?_ _) | (simp; done) | (simp; omega) | omega))
      have HFIN : Hid (RetMM w (movedX x nd) (pfree x nd nd.index.length) (.returned (.tuple #[.agg #[.int .i64 x.id, .int .i64 x.len, .int .i64 x.gen, .slice Aq nq cq], .slice F (pfree x nd k).length d])) ((((w8.setCell ⟨w.heap.size + 2, 0, none⟩ (.int .i64 x.id)).setCell ⟨w.heap.size + 2, 1, none⟩ (.int .i64 x.len)).setCell ⟨w.heap.size + 2, 2, none⟩ (.int .i64 x.gen)).setCell ⟨w.heap.size + 2, 3, none⟩ (.slice Aq nq cq))) := Lib.hid (by
        rw [HL0.out]
        exact ⟨_, _, _, _, _, _, rfl, (HT8.out.keep hkk).mono (fun b hb _ => by have : w.heap.size + 3 ≤ b := hb; omega), (((HF8.out.sl (tg := true)).mono (S' := fun b => w.heap.size + 3 ≤ b) (fun b hb _ => by rcases hb with hb | hb; exact hb.elim; exact hb)).keep hkk).mono (fun b hb _ => by have : w.heap.size + 3 ≤ b := hb; omega),
          (((HM8.out.below.setCell (by show w.heap.size ≤ w.heap.size + 2; omega) _).setCell (by show w.heap.size ≤ w.heap.size + 2; omega) _).setCell (by show w.heap.size ≤ w.heap.size + 2; omega) _).setCell (by show w.heap.size ≤ w.heap.size + 2; omega) _⟩)
      have hrow : ((((w8.setCell ⟨w.heap.size + 2, 0, none⟩ (.int .i64 x.id)).setCell ⟨w.heap.size + 2, 1, none⟩ (.int .i64 x.len)).setCell ⟨w.heap.size + 2, 2, none⟩ (.int .i64 x.gen)).setCell ⟨w.heap.size + 2, 3, none⟩ (.slice Aq nq cq)).heap[w.heap.size + 2]? = some (.cells #[.int .i64 x.id, .int .i64 x.len, .int .i64 x.gen, .slice Aq nq cq] 79 (0, 0)) := by
        have := HM8.out.b2
        simp [World.setCell, Array.getElem?_modify, this]
      clear hkk hlt6
      have hm1 : (movedX x nd).id = x.id := rfl
      have hm2 : (movedX x nd).len = x.len := rfl
      have hm3 : (movedX x nd).gen = x.gen := rfl
      try rw [hm1, hm2, hm3]
      clear hm1 hm2 hm3
      go_wp2
      have q0 := cell_of_row _ _ 0 _ _ _ hrow
      have q1 := cell_of_row _ _ 1 _ _ _ hrow
      have q2 := cell_of_row _ _ 2 _ _ _ hrow
      have q3 := cell_of_row _ _ 3 _ _ _ hrow
      clear hrow f0 f1 f2 f3 f4 f5 f6 f7
      generalize ((((w8.setCell ⟨w.heap.size + 2, 0, none⟩ (.int .i64 x.id)).setCell ⟨w.heap.size + 2, 1, none⟩ (.int .i64 x.len)).setCell ⟨w.heap.size + 2, 2, none⟩ (.int .i64 x.gen)).setCell ⟨w.heap.size + 2, 3, none⟩ (.slice Aq nq cq)) = w7 at *
      refine bodyPost_ret (v := .tuple #[.agg #[.int .i64 x.id, .int .i64 x.len, .int .i64 x.gen, .slice Aq nq cq], .slice F (pfree x nd k).length d]) (by simp [results, Try.results73, go_sem, *]; done) rfl ?_
      exact HFIN.out
end Go.Proofs.Ytfccghfcilccfaa
