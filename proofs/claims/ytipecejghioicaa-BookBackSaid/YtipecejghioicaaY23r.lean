/- book.Own: a book in memory of its own. Printed by gen_y23.py. -/
import Derived.Test.YtipecejghioicaaY22r
import Derived.Test.YtipecejghioicaaY5r
import Derived.Test.YtipecejghioicaaY18r
import Derived.Deep.CutRange
import Derived.Deep.Light
namespace Go.Proofs.Ytipecejghioicaa
open Go.RowKit Go.Silo
/-- The box and the rows, so many elements made one's own. -/
structure OW (tg0 tg1 : Bool) (w : World) (base bb N B : Nat) (A0 : Option Addr) (n0 c0 : Nat) (A1 : Option Addr) (n1 c1 : Nat) (A2 : Option Addr) (n2 c2 : Nat) (b : Book) (k j : Nat) (W : World) : Prop where
  row : W.heap[bb]? = some (.cells #[.slice A0 n0 c0, .slice A1 n1 c1, .slice A2 n2 c2, .int .i64 b.next] 28 (0, 0))
  st : Silo.Own 69 (mixE N (stripeE true) (stripeE tg0) rfl) W B (fun g => g < base ∨ N ≤ g) A0 n0 c0 (marks k b.stripes)
  th : Silo.Own 71 (mixE N (entryE true) (entryE tg1) rfl) W B (fun g => g < base ∨ N ≤ g) A1 n1 c1 (marks j b.things)
  ta : Silo.Own 73 tagE W B (fun g => g < base ∨ N ≤ g) A2 n2 c2 b.tags
  below : Below base w W
  size : N ≤ W.heap.size
  lo : bb + 1 < B
  rb : W.heap[bb + 1]? = some (.cells #[.slice none 0 0, .slice none 0 0, .slice none 0 0, .int .i64 0] 28 (0, 0))
  ba : base ≤ bb
  l0 : ∀ g, ablk A0 = some g → g < N
  l1 : ∀ g, ablk A1 = some g → g < N
  l2 : ∀ g, ablk A2 = some g → g < N
  d01 : ∀ g, ablk A0 = some g → ablk A1 ≠ some g
  d02 : ∀ g, ablk A0 = some g → ablk A2 ≠ some g
  d12 : ∀ g, ablk A1 = some g → ablk A2 ≠ some g
theorem OW.all {tg0 tg1 : Bool} {w : World} {base bb N B : Nat} {A0 : Option Addr} {n0 c0 : Nat} {A1 : Option Addr} {n1 c1 : Nat} {A2 : Option Addr} {n2 c2 : Nat} {b : Book} {k j : Nat} {W W' : World} (h : OW tg0 tg1 w base bb N B A0 n0 c0 A1 n1 c1 A2 n2 c2 b k j W) (hb : Below W.heap.size W W') : OW tg0 tg1 w base bb N B A0 n0 c0 A1 n1 c1 A2 n2 c2 b k j W' :=
  ⟨(hb.block _ (Array.getElem?_eq_some_iff.1 h.row).1).trans h.row, h.st.all hb, h.th.all hb, h.ta.all hb, h.below.trans (hb.mono (Nat.le_trans h.ba (Nat.le_of_lt (Array.getElem?_eq_some_iff.1 h.row).1))), Nat.le_trans h.size hb.size, h.lo, (hb.block _ (Array.getElem?_eq_some_iff.1 h.rb).1).trans h.rb, h.ba, h.l0, h.l1, h.l2, h.d01, h.d02, h.d12⟩
theorem OW.fill0 {tg0 tg1 : Bool} {w : World} {base bb N B : Nat} {A0 : Option Addr} {n0 c0 : Nat} {A1 : Option Addr} {n1 c1 : Nat} {A2 : Option Addr} {n2 c2 : Nat} {b : Book} {k j : Nat} {W W1 : World} {g m c' : Nat} {A' : Option Addr} {x : Stripe} {cur : Array Value} (h : OW tg0 tg1 w base bb N B A0 n0 c0 A1 n1 c1 A2 n2 c2 b k j W) (hi : k < n0) (hA : A0 = some ⟨g, 0, none⟩) (hh : W.heap[g]? = some (.cells cur 69 (0, 0)))
    (hx : b.stripes.getD k default = x) (hok : I64 x.id ∧ I64 x.len ∧ I64 x.gen) (hc : ∀ i v, [.int .i64 x.id, .int .i64 x.len, .int .i64 x.gen][i]? = some v → cur[k * 4 + i]? = some v)
    (hW : Below W.heap.size W W1) (ho : Silo.Own 67 slotE W1 W.heap.size (fun b => W.heap.size ≤ b) A' m c' x.place) :
    OW tg0 tg1 w base bb N B A0 n0 c0 A1 n1 c1 A2 n2 c2 b (k + 1) j (W1.setCell ⟨g, k * 4 + 3, none⟩ (.slice A' m c')) := by
  have hg : ablk A0 = some g := by rw [hA]; rfl
  have hgN := h.l0 g hg
  have hgB := (h.st.lt g hg).1
  have h1 := h.all hW
  have hset : ∀ (S : Nat → Prop), ¬ S g → Agree S W1 (W1.setCell ⟨g, k * 4 + 3, none⟩ (.slice A' m c')) := fun S hS => Agree.setCell (p := ⟨g, k * 4 + 3, none⟩) hS _
  have hsz : W1.heap.size ≤ (W1.setCell ⟨g, k * 4 + 3, none⟩ (.slice A' m c')).heap.size := by simp
  have hne : bb ≠ g := by have := h.lo; omega
  have hne1 : bb + 1 ≠ g := by have := h.lo; omega
  have hSg : ¬ (g < base ∨ N ≤ g) := by have := h.lo; have := h.ba; omega
  have hNW := h.size
  refine ⟨(Below.heap_setCell W1 _ _ _ hne).trans h1.row, ?_, ?_, h1.ta.frame (hset _ (fun hb => hb.elim hSg (fun e => h.d02 g hg e.symm))) hsz, h1.below.setCell (show base ≤ g by have := h.lo; have := h.ba; omega) _, by simpa using h1.size, h.lo, (Below.heap_setCell W1 _ _ _ hne1).trans h1.rb, h.ba, h.l0, h.l1, h.l2, h.d01, h.d02, h.d12⟩
  · exact fill_Stripe h1.st hi hA ((hW.block g (Array.getElem?_eq_some_iff.1 hh).1).trans hh) hx hok hc ho (fun b hb => ⟨.inr (by omega), by omega, by omega⟩)
  · exact h1.th.frame (hset _ (fun hb => hb.elim hSg (fun e => h.d01 g hg e.symm))) hsz
theorem OW.fill1 {tg0 tg1 : Bool} {w : World} {base bb N B : Nat} {A0 : Option Addr} {n0 c0 : Nat} {A1 : Option Addr} {n1 c1 : Nat} {A2 : Option Addr} {n2 c2 : Nat} {b : Book} {k j : Nat} {W W1 : World} {g m c' : Nat} {A' : Option Addr} {x : Entry} {cur : Array Value} (h : OW tg0 tg1 w base bb N B A0 n0 c0 A1 n1 c1 A2 n2 c2 b k j W) (hi : j < n1) (hA : A1 = some ⟨g, 0, none⟩) (hh : W.heap[g]? = some (.cells cur 71 (0, 0)))
    (hx : b.things.getD j default = x) (hok : StrOk x.digest ∧ I64 x.len) (hc : ∀ i v, [.string x.digest, .int .i64 x.len, .bool x.man][i]? = some v → cur[j * 4 + i]? = some v)
    (hW : Below W.heap.size W W1) (ho : Silo.Own 3 intE W1 W.heap.size (fun b => W.heap.size ≤ b) A' m c' x.list) :
    OW tg0 tg1 w base bb N B A0 n0 c0 A1 n1 c1 A2 n2 c2 b k (j + 1) (W1.setCell ⟨g, j * 4 + 3, none⟩ (.slice A' m c')) := by
  have hg : ablk A1 = some g := by rw [hA]; rfl
  have hgN := h.l1 g hg
  have hgB := (h.th.lt g hg).1
  have h1 := h.all hW
  have hset : ∀ (S : Nat → Prop), ¬ S g → Agree S W1 (W1.setCell ⟨g, j * 4 + 3, none⟩ (.slice A' m c')) := fun S hS => Agree.setCell (p := ⟨g, j * 4 + 3, none⟩) hS _
  have hsz : W1.heap.size ≤ (W1.setCell ⟨g, j * 4 + 3, none⟩ (.slice A' m c')).heap.size := by simp
  have hne : bb ≠ g := by have := h.lo; omega
  have hne1 : bb + 1 ≠ g := by have := h.lo; omega
  have hSg : ¬ (g < base ∨ N ≤ g) := by have := h.lo; have := h.ba; omega
  have hNW := h.size
  refine ⟨(Below.heap_setCell W1 _ _ _ hne).trans h1.row, ?_, ?_, h1.ta.frame (hset _ (fun hb => hb.elim hSg (fun e => h.d12 g hg e.symm))) hsz, h1.below.setCell (show base ≤ g by have := h.lo; have := h.ba; omega) _, by simpa using h1.size, h.lo, (Below.heap_setCell W1 _ _ _ hne1).trans h1.rb, h.ba, h.l0, h.l1, h.l2, h.d01, h.d02, h.d12⟩
  · exact h1.st.frame (hset _ (fun hb => hb.elim hSg (fun e => h.d01 g e.symm hg))) hsz
  · exact fill_Entry h1.th hi hA ((hW.block g (Array.getElem?_eq_some_iff.1 hh).1).trans hh) hx hok hc ho (fun b hb => ⟨.inr (by omega), by omega, by omega⟩)
theorem OW.done {tg0 tg1 : Bool} {w : World} {base bb N B : Nat} {A0 : Option Addr} {n0 c0 : Nat} {A1 : Option Addr} {n1 c1 : Nat} {A2 : Option Addr} {n2 c2 : Nat} {b : Book} {W W' : World} (h : OW tg0 tg1 w base bb N B A0 n0 c0 A1 n1 c1 A2 n2 c2 b n0 n1 W) (hA : Agree (fun q => q ≠ bb + 1) W W') (hs : W.heap.size ≤ W'.heap.size) (hN : bb + 1 < N) (hnx : I64 b.next) :
    ∀ X d V, d < base → Agree (fun g => base ≤ g) W' V → W'.heap.size ≤ V.heap.size → (∀ g o, X g = some o → g ≠ d ∧ g < N ∧ (g < B) ∧ V.heap[g]? = some o) → V.heap[d]? = some (.cells #[.slice A0 n0 c0, .slice A1 n1 c1, .slice A2 n2 c2, .int .i64 b.next] 28 (0, 0)) → OB X d d A0 n0 c0 A1 n1 c1 A2 n2 c2 b V := by
  intro X d V hd hV hVs hX hrow
  have hlo := h.lo
  have hba := h.ba
  have hns : ∀ g, N ≤ g → NS d A0 A1 A2 g := fun g hg => ⟨by omega, fun e => by have := h.l0 g e.symm; omega, fun e => by have := h.l1 g e.symm; omega, fun e => by have := h.l2 g e.symm; omega⟩
  have q0 := (h.st.unmark).mono (S' := fun g => N ≤ g) (fun g hg _ => hg.2)
  have q1 := (h.th.unmark).mono (S' := fun g => N ≤ g) (fun g hg _ => hg.2)
  have q2 : Silo.Own 73 tagE W B (fun g => N ≤ g) A2 n2 c2 b.tags := by
    obtain ⟨cs, ho, hl, hk⟩ := h.ta
    exact ⟨cs, ho, hl, fun k x hx => hk k x hx⟩
  have hag : ∀ (A : Option Addr), (∀ k, ablk A = some k → B ≤ k) → Agree (fun g => N ≤ g ∨ some g = ablk A) W W' := fun A hB => hA.mono (fun g hg _ e => by
    rcases hg with hg | hg
    · omega
    · have := hB g hg.symm; omega)
  have hbg : ∀ (g : Nat) (A : Option Addr), (∀ k, ablk A = some k → B ≤ k) → (N ≤ g ∨ some g = ablk A) → base ≤ g := fun g A hB hg => by
    rcases hg with hg | hg
    · omega
    · have := hB g hg.symm; omega
  have f0 := ((q0.frame (hag _ (fun k hk => (q0.lt k hk).1)) hs).frame (hV.mono (fun g hg _ => hbg g _ (fun k hk => (q0.lt k hk).1) hg)) hVs).mono (S' := NS d A0 A1 A2) (fun g hg _ => hns g hg)
  have f1 := ((q1.frame (hag _ (fun k hk => (q1.lt k hk).1)) hs).frame (hV.mono (fun g hg _ => hbg g _ (fun k hk => (q1.lt k hk).1) hg)) hVs).mono (S' := NS d A0 A1 A2) (fun g hg _ => hns g hg)
  have f2 := ((q2.frame (hag _ (fun k hk => (q2.lt k hk).1)) hs).frame (hV.mono (fun g hg _ => hbg g _ (fun k hk => (q2.lt k hk).1) hg)) hVs).mono (S' := NS d A0 A1 A2) (fun g hg _ => hns g hg)
  refine ⟨hrow, f0.lower (by omega), f1.lower (by omega), f2.lower (by omega), ⟨fun e => ?_, fun e => ?_, fun e => ?_, h.d01, h.d02, h.d12⟩, hnx, Nat.le_refl _, fun g o hx => ?_⟩
  · have := (h.st.lt _ e).1; omega
  · have := (h.th.lt _ e).1; omega
  · have := (h.ta.lt _ e).1; omega
  · obtain ⟨e1, e2, e3, e4⟩ := hX g o hx
    exact ⟨e1, fun e => by have := (h.st.lt _ e.symm).1; omega, fun e => by have := (h.th.lt _ e.symm).1; omega, fun e => by have := (h.ta.lt _ e.symm).1; omega, e4⟩
/-- A book that is one's own, behind the world w. -/
def RetOwnB (b : Book) (w : World) (e : Ending) (w' : World) : Prop :=
  ∃ A0 c0 A1 c1 A2 c2, e = .returned (.agg #[.slice A0 b.stripes.length c0, .slice A1 b.things.length c1, .slice A2 b.tags.length c2, .int .i64 b.next]) ∧
    (∀ X bb W, bb < w.heap.size → Agree (fun g => w.heap.size ≤ g) w' W → w'.heap.size ≤ W.heap.size → (∀ g o, X g = some o → g ≠ bb ∧ g < w.heap.size ∧ W.heap[g]? = some o) → W.heap[bb]? = some (.cells #[.slice A0 b.stripes.length c0, .slice A1 b.things.length c1, .slice A2 b.tags.length c2, .int .i64 b.next] 28 (0, 0)) → OB X bb bb A0 b.stripes.length c0 A1 b.things.length c1 A2 b.tags.length c2 b W) ∧ Below w.heap.size w w'
set_option maxRecDepth 100000 in
set_option maxHeartbeats 16000000 in
theorem bookOwn_c {tg tg0 tg1 tg2 : Bool} {S : Nat → Prop} {w : World} {A0 A1 A2 : Option Addr} {n0 c0 n1 c1 n2 c2 : Nat} {b : Book} (h : BookR w S tg tg0 tg1 tg2 A0 n0 c0 A1 n1 c1 A2 n2 c2 b) (hn : n0 ≤ 100000000 ∧ n1 ≤ 100000000 ∧ n2 ≤ 100000000) (hp : ∀ y ∈ b.stripes, y.place.length ≤ 100000000) (hq : ∀ y ∈ b.things, y.list.length ≤ 100000000) :
    Calls Try.prog 50 #[.agg #[.slice A0 n0 c0, .slice A1 n1 c1, .slice A2 n2 c2, .int .i64 b.next]] w (RetOwnB b w) := by
  have HNX := Lib.hid h.nx
  have HP := Lib.hid hp
  have HQL := Lib.hid hq
  have HL := Lib.hid (And.intro h.st.len (And.intro h.th.len h.ta.len))
  have HS := Lib.hid (fun W (hW : Below w.heap.size w W) => And.intro (Clone_Stripe (((h.st.lt_block).mono (S' := fun g => g < w.heap.size) (fun _ h _ => h.2)).all hW) hn.1) (And.intro (Clone_Entry (((h.th.lt_block).mono (S' := fun g => g < w.heap.size) (fun _ h _ => h.2)).all hW) hn.2.1) (Clone_Tag (((h.ta.lt_block).mono (S' := fun g => g < w.heap.size) (fun _ h _ => h.2)).all hW) hn.2.2)))
  clear h hp hq
  obtain ⟨hn0, hn1, hn2⟩ := hn
  have hal : Below w.heap.size w ((w.alloc (.cells #[.slice A0 n0 c0, .slice A1 n1 c1, .slice A2 n2 c2, .int .i64 b.next] 28)).alloc (.cells #[.slice none 0 0, .slice none 0 0, .slice none 0 0, .int .i64 0] 28)) := (by repeat' (first | (with_reducible exact Below.refl _ _) | (with_reducible refine Below.alloc ?_ ?_ _) | (with_reducible refine Below.drew ?_) | (with_reducible refine below_drewN ?_ _) | (with_reducible refine Below.setCell ?_ ?_ _) | (refine via ?_ (by with_reducible assumption) ?_) | (refine via ?_ (below_ext _ _) ?_) | go_size))
  have hr0 : ((w.alloc (.cells #[.slice A0 n0 c0, .slice A1 n1 c1, .slice A2 n2 c2, .int .i64 b.next] 28)).alloc (.cells #[.slice none 0 0, .slice none 0 0, .slice none 0 0, .int .i64 0] 28)).heap[w.heap.size]? = some (.cells #[.slice A0 n0 c0, .slice A1 n1 c1, .slice A2 n2 c2, .int .i64 b.next] 28 (0, 0)) := by
    rw [Below.heap_alloc _ _ _ (by simp; try omega)]
    have := heap_alloc_new w (.cells #[.slice A0 n0 c0, .slice A1 n1 c1, .slice A2 n2 c2, .int .i64 b.next] 28)
    simpa only [World.size_alloc] using this
  have hr1 : ((w.alloc (.cells #[.slice A0 n0 c0, .slice A1 n1 c1, .slice A2 n2 c2, .int .i64 b.next] 28)).alloc (.cells #[.slice none 0 0, .slice none 0 0, .slice none 0 0, .int .i64 0] 28)).heap[w.heap.size + 1]? = some (.cells #[.slice none 0 0, .slice none 0 0, .slice none 0 0, .int .i64 0] 28 (0, 0)) := by
    have := heap_alloc_new (w.alloc (.cells #[.slice A0 n0 c0, .slice A1 n1 c1, .slice A2 n2 c2, .int .i64 b.next] 28)) (.cells #[.slice none 0 0, .slice none 0 0, .slice none 0 0, .int .i64 0] 28)
    simpa only [World.size_alloc] using this
  have hz : w.heap.size + 1 < ((w.alloc (.cells #[.slice A0 n0 c0, .slice A1 n1 c1, .slice A2 n2 c2, .int .i64 b.next] 28)).alloc (.cells #[.slice none 0 0, .slice none 0 0, .slice none 0 0, .int .i64 0] 28)).heap.size := by simp
  go_enter Try.func50, Try.ntmps50
  go_upto_region 1 with (fail)
  generalize ((w.alloc (.cells #[.slice A0 n0 c0, .slice A1 n1 c1, .slice A2 n2 c2, .int .i64 b.next] 28)).alloc (.cells #[.slice none 0 0, .slice none 0 0, .slice none 0 0, .int .i64 0] 28)) = W0 at *
  have HAL := Lib.hid (fun V (hV : Below W0.heap.size W0 V) => hal.trans (hV.mono hal.size)); clear hal
  have ROW := Lib.hid (fun V (hV : Below W0.heap.size W0 V) => (show V.heap[w.heap.size]? = some (.cells #[.slice A0 n0 c0, .slice A1 n1 c1, .slice A2 n2 c2, .int .i64 b.next] 28 (0, 0)) ∧ V.heap[w.heap.size + 1]? = some (.cells #[.slice none 0 0, .slice none 0 0, .slice none 0 0, .int .i64 0] 28 (0, 0)) from ⟨(hV.block _ (by omega)).trans hr0, (hV.block _ (by omega)).trans hr1⟩))
  clear hr0 hr1
  have hz1 : w.heap.size + 1 < W0.heap.size := by omega
  have r0 := (ROW.out W0 (Below.refl _ _)).1
  have HR0 := Lib.hid r0; clear r0
  have HC0 := Lib.hid (fun V (hV : OwnQ W0 w.heap.size w.heap.size (.slice A0 n0 c0) (.slice A1 n1 c1) (.slice A2 n2 c2) b.next V) => (HS.out V ((HAL.out W0 (Below.refl _ _)).trans hV.below)).1)
  have HC1 := Lib.hid (fun V (hV : OwnQ W0 w.heap.size w.heap.size (.slice A0 n0 c0) (.slice A1 n1 c1) (.slice A2 n2 c2) b.next V) => (HS.out V ((HAL.out W0 (Below.refl _ _)).trans hV.below)).2.1)
  have HC2 := Lib.hid (fun V (hV : OwnQ W0 w.heap.size w.heap.size (.slice A0 n0 c0) (.slice A1 n1 c1) (.slice A2 n2 c2) b.next V) => (HS.out V ((HAL.out W0 (Below.refl _ _)).trans hV.below)).2.2)
  refine own1 (Nat.le_refl _) (by omega) (by omega) HR0 HC0 HC1 HC2 rfl rfl ?_
  clear HC0 HC1 HC2 HR0 HS
  intro v w1 x y z hq h3
  simp only [putAll, List.map_cons, List.map_nil, List.foldl_cons, List.foldl_nil, Act.put, List.setIfInBounds_toArray, List.set_cons_succ, List.set_cons_zero]
  obtain ⟨e0, e1, e2⟩ := HL.out
  rw [← e0] at hn0
  rw [← e1] at hn1
  rw [← e2] at hn2
  clear e0 e1 e2 HL
  obtain ⟨h30, h31, h32, d01, d02, d12⟩ := h3
  obtain ⟨B0, k0, rfl, o0⟩ := h30
  obtain ⟨B1, k1, rfl, o1⟩ := h31
  obtain ⟨B2, k2, rfl, o2⟩ := h32
  have HN2 := Lib.hid (hq.size)
  have HFR := Lib.hid (hq.same (w.heap.size + 1) (by omega) (by omega))
  have HOW : Hid (OW tg0 tg1 w w.heap.size w.heap.size w1.heap.size W0.heap.size B0 b.stripes.length k0 B1 b.things.length k1 B2 b.tags.length k2 b 0 0 w1) := Lib.hid ⟨hq.row, Own.mark0 (o0.mono (fun g hg _ => .inl hg)), Own.mark0 (o1.mono (fun g hg _ => .inl hg)), o2.mono (fun g hg _ => .inl hg), (HAL.out W0 (Below.refl _ _)).trans hq.below, Nat.le_refl _, by omega, by rw [HFR.out]; exact (ROW.out W0 (Below.refl _ _)).2, Nat.le_refl _, fun g hg => (o0.lt g hg).2, fun g hg => (o1.lt g hg).2, fun g hg => (o2.lt g hg).2,
    fun g h1 h2 => d01 g (by rw [ownBlock_slice]; exact h1) (by rw [ownBlock_slice]; exact h2), fun g h1 h2 => d02 g (by rw [ownBlock_slice]; exact h1) (by rw [ownBlock_slice]; exact h2), fun g h1 h2 => d12 g (by rw [ownBlock_slice]; exact h1) (by rw [ownBlock_slice]; exact h2)⟩
  clear hq d01 d02 d12 o0 o1 o2
  have HBW : Hid (w.heap.size < W0.heap.size) := Lib.hid (by omega)
  clear HFR ROW HAL hz hz1
  generalize hs0 : b.stripes.length = m0 at *
  generalize hs1 : b.things.length = m1 at *
  generalize hs2 : b.tags.length = m2 at *
  have HL0 := Lib.hid hs0; clear hs0
  have HL1 := Lib.hid hs1; clear hs1
  have HL2 := Lib.hid hs2; clear hs2
  have hlt1 : w.heap.size + 1 < w1.heap.size := (Array.getElem?_eq_some_iff.1 HOW.out.rb).1
  have r7 := HOW.out.row
  have x0 := (cell_of_row _ _ 0 _ _ _ r7).trans (show _ = some (.slice B0 m0 k0 : Value) from rfl)
  clear r7
  go_wp2_with fail
  go_loopw [20] (fun iv wr => ∃ k : Nat, k ≤ m0 ∧ iv = .int .i64 k ∧ Hid (OW tg0 tg1 w w.heap.size w.heap.size w1.heap.size W0.heap.size B0 m0 k0 B1 m1 k1 B2 m2 k2 b k 0 wr)) (fun iv _ => m0 - (intOf iv).toNat)
  case atStart => exact ⟨0, Nat.zero_le _, rfl, HOW⟩
  case round =>
    obtain ⟨k, hk, rfl, HO⟩ := hrel
    by_cases hlt : k < m0
    · clear x0
      obtain ⟨g0, cur, vs, eA, hgB, hgs, hh, hx, hcs⟩ := mix_at (d := default) HO.out.st hlt
      obtain ⟨A3, n3, c3, rfl, hok, hsl⟩ := hx
      have HOK := Lib.hid hok; clear hok
      have hl3 := hsl.len
      have hm3 : n3 ≤ 100000000 := by have := HP.out _ (mem_at (l := b.stripes) (j := k) (d := default) (by rw [HL0.out]; exact hlt)); omega
      have HCL := Lib.hid (fun V (hV : Below wr.heap.size wr V) => Clone_slot (hsl.all hV) hm3)
      have HL3 := Lib.hid hl3; clear hl3 hm3 hsl
      have HCS := Lib.hid hcs; clear hcs
      have HH := Lib.hid hh; clear hh
      have HEA := Lib.hid eA
      obtain ⟨o0, ho0⟩ : ∃ o : Nat, o = 0 := ⟨_, rfl⟩
      have HE3 := Lib.hid (fun V (hV : Below wr.heap.size wr V) => (show V.cell? ⟨g0, o0 + k * 4 + 3, none⟩ = some (.slice A3 n3 c3) ∧ V.frozen? ⟨g0, o0 + k * 4 + 3, none⟩ = false from ⟨(cell_of_row _ _ _ _ _ _ ((hV.block _ hgs).trans HH.out)).trans (by rw [ho0, Nat.zero_add]; exact HCS.out 3 _ rfl), frozen_of_row _ _ _ _ _ ((hV.block _ hgs).trans HH.out)⟩))
      have HQ : Hid (wr.heap[w.heap.size]? = some (.cells #[.slice (some ⟨g0, o0, none⟩) m0 k0, .slice B1 m1 k1, .slice B2 m2 k2, .int .i64 b.next] 28 (0, 0))) := Lib.hid (by have := HO.out.row; rw [eA] at this; rw [ho0]; exact this)
      have HO0 := Lib.hid ho0; clear ho0 eA
      go_upto_region 5 with (fail)
      refine own5 hlt HQ HL3 HE3 HCL rfl rfl rfl ?_
      intro v W5 A4 c4 hb5 ho5
      simp only [putAll, List.map_cons, List.map_nil, List.foldl_cons, List.foldl_nil, Act.put, List.setIfInBounds_toArray, List.set_cons_succ, List.set_cons_zero]
      have HOW5 : Hid (OW tg0 tg1 w w.heap.size w.heap.size w1.heap.size W0.heap.size B0 m0 k0 B1 m1 k1 B2 m2 k2 b (k + 1) 0 (W5.setCell ⟨g0, o0 + k * 4 + 3, none⟩ (.slice A4 n3 c4))) := Lib.hid (by
        rw [HO0.out, Nat.zero_add]
        exact HO.out.fill0 hlt HEA.out HH.out rfl HOK.out (fun i v hi => match i, hi with
          | 0, hi => HCS.out 0 v hi
          | 1, hi => HCS.out 1 v hi
          | 2, hi => HCS.out 2 v hi) hb5 ho5)
      generalize W5.setCell ⟨g0, o0 + k * 4 + 3, none⟩ (.slice A4 n3 c4) = wz at *
      clear HQ HL3 HE3 HCL hb5 ho5 HO HOK HCS HH HEA HO0 hgB hgs
      have hk1 : k + 1 ≤ m0 := hlt
      go_wp2
      refine ⟨⟨k + 1, hk1, by go_num, HOW5⟩, ?_⟩
      go_light
      simp [intOf]
      omega
    · obtain rfl : m0 = k := by omega
      clear hlt hk
      have r7 := HO.out.row
      have x1 := (cell_of_row _ _ 1 _ _ _ r7).trans (show _ = some (.slice B1 m1 k1 : Value) from rfl)
      clear r7
      have HOW := HO; clear HO
      rename World => wo
      go_wp2_with fail
      go_loopw [39] (fun iv wr => ∃ j : Nat, j ≤ m1 ∧ iv = .int .i64 j ∧ Hid (OW tg0 tg1 w w.heap.size w.heap.size w1.heap.size W0.heap.size B0 m0 k0 B1 m1 k1 B2 m2 k2 b m0 j wr)) (fun iv _ => m1 - (intOf iv).toNat)
      case atStart => exact ⟨0, Nat.zero_le _, rfl, HOW⟩
      case round =>
        obtain ⟨j, hk, rfl, HO⟩ := hrel
        by_cases hlt : j < m1
        · clear x1
          obtain ⟨g0, cur, vs, eA, hgB, hgs, hh, hx, hcs⟩ := mix_at (d := default) HO.out.th hlt
          obtain ⟨A3, n3, c3, rfl, hok, hsl⟩ := hx
          have HOK := Lib.hid hok; clear hok
          have hl3 := hsl.len
          have hm3 : n3 ≤ 100000000 := by have := HQL.out _ (mem_at (l := b.things) (j := j) (d := default) (by rw [HL1.out]; exact hlt)); omega
          have HCL := Lib.hid (fun V (hV : Below wr.heap.size wr V) => Clone_int (hsl.all hV) hm3)
          have HL3 := Lib.hid hl3; clear hl3 hm3 hsl
          have HCS := Lib.hid hcs; clear hcs
          have HH := Lib.hid hh; clear hh
          have HEA := Lib.hid eA
          obtain ⟨o0, ho0⟩ : ∃ o : Nat, o = 0 := ⟨_, rfl⟩
          have HE3 := Lib.hid (fun V (hV : Below wr.heap.size wr V) => (show V.cell? ⟨g0, o0 + j * 4 + 3, none⟩ = some (.slice A3 n3 c3) ∧ V.frozen? ⟨g0, o0 + j * 4 + 3, none⟩ = false from ⟨(cell_of_row _ _ _ _ _ _ ((hV.block _ hgs).trans HH.out)).trans (by rw [ho0, Nat.zero_add]; exact HCS.out 3 _ rfl), frozen_of_row _ _ _ _ _ ((hV.block _ hgs).trans HH.out)⟩))
          have HQ : Hid (wr.heap[w.heap.size]? = some (.cells #[.slice B0 m0 k0, .slice (some ⟨g0, o0, none⟩) m1 k1, .slice B2 m2 k2, .int .i64 b.next] 28 (0, 0))) := Lib.hid (by have := HO.out.row; rw [eA] at this; rw [ho0]; exact this)
          have HO0 := Lib.hid ho0; clear ho0 eA
          go_upto_region 10 with (fail)
          refine own10 hlt HQ HL3 HE3 HCL rfl rfl rfl ?_
          intro v W5 A4 c4 hb5 ho5
          simp only [putAll, List.map_cons, List.map_nil, List.foldl_cons, List.foldl_nil, Act.put, List.setIfInBounds_toArray, List.set_cons_succ, List.set_cons_zero]
          have HOW5 : Hid (OW tg0 tg1 w w.heap.size w.heap.size w1.heap.size W0.heap.size B0 m0 k0 B1 m1 k1 B2 m2 k2 b m0 (j + 1) (W5.setCell ⟨g0, o0 + j * 4 + 3, none⟩ (.slice A4 n3 c4))) := Lib.hid (by
            rw [HO0.out, Nat.zero_add]
            exact HO.out.fill1 hlt HEA.out HH.out rfl HOK.out (fun i v hi => match i, hi with
              | 0, hi => HCS.out 0 v hi
              | 1, hi => HCS.out 1 v hi
              | 2, hi => HCS.out 2 v hi) hb5 ho5)
          generalize W5.setCell ⟨g0, o0 + j * 4 + 3, none⟩ (.slice A4 n3 c4) = wz at *
          clear HQ HL3 HE3 HCL hb5 ho5 HO HOK HCS HH HEA HO0 hgB hgs
          have hk1 : j + 1 ≤ m1 := hlt
          go_wp2
          refine ⟨⟨j + 1, hk1, by go_num, HOW5⟩, ?_⟩
          go_light
          simp [intOf]
          omega
        · obtain rfl : m1 = j := by omega
          clear hlt hk
          have r7 := HO.out.row
          have r8 := HO.out.rb
          have x0 := (cell_of_row _ _ 0 _ _ _ r7).trans (show _ = some (.slice B0 m0 k0 : Value) from rfl)
          have x1 := (cell_of_row _ _ 1 _ _ _ r7).trans (show _ = some (.slice B1 m1 k1 : Value) from rfl)
          have x2 := (cell_of_row _ _ 2 _ _ _ r7).trans (show _ = some (.slice B2 m2 k2 : Value) from rfl)
          have x3 := (cell_of_row _ _ 3 _ _ _ r7).trans (show _ = some (.int .i64 b.next : Value) from rfl)
          have f0 := (cell_of_row _ _ 0 _ _ _ r8).trans (show _ = some (.slice none 0 0 : Value) from rfl)
          have f1 := (cell_of_row _ _ 1 _ _ _ r8).trans (show _ = some (.slice none 0 0 : Value) from rfl)
          have f2 := (cell_of_row _ _ 2 _ _ _ r8).trans (show _ = some (.slice none 0 0 : Value) from rfl)
          have f3 := (cell_of_row _ _ 3 _ _ _ r8).trans (show _ = some (.int .i64 0 : Value) from rfl)
          have e0 := frozen_of_row _ _ 0 _ _ r8
          have e1 := frozen_of_row _ _ 1 _ _ r8
          have e2 := frozen_of_row _ _ 2 _ _ r8
          have e3 := frozen_of_row _ _ 3 _ _ r8
          have hb4 := box4 (a := .slice B0 m0 k0) (b := .slice B1 m1 k1) (c := .slice B2 m2 k2) (d := .int .i64 b.next) r8
          have HBL := Lib.hid (HO.out.below.trans (hb4.2.1 w.heap.size (by omega)))
          have HDN := Lib.hid (HO.out.done hb4.2.2 (hb4.2.1 w.heap.size (by omega)).size hlt1 HNX.out)
          clear r7 r8 hb4 HO
          go_wp2
          refine bodyPost_ret (v := .agg #[.slice B0 m0 k0, .slice B1 m1 k1, .slice B2 m2 k2, .int .i64 b.next]) (by simp [results, Try.results50, go_sem, *]; done) rfl ?_
          have q0 := HL0.out
          have q1 := HL1.out
          have q2 := HL2.out
          subst q0 q1 q2
          exact ⟨B0, k0, B1, k1, B2, k2, rfl, fun X d V h1 h2 h3 h4 h5 => HDN.out X d V h1 h2 h3 (fun g o hx => by have := h4 g o hx; exact ⟨this.1, by omega, by have := HBW.out; omega, this.2.2⟩) h5, HBL.out⟩
end Go.Proofs.Ytipecejghioicaa
