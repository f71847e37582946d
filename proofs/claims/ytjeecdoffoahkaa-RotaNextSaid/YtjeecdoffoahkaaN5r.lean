/- rota.round: the pieces behind a cursor, for whoever ranges over them. Printed by gen_n5.py. -/
import Derived.Test.YtjeecdoffoahkaaN4r
namespace Go.Silo
open Go Go.RowKit

/-- What a round of a loop leaves as it was: all below β but X; all rows but X and the one that it appends to. -/
structure KR (β : Nat) (X : Nat → Prop) (rb : World → Option Nat) (A B : World) : Prop where
  size : A.heap.size ≤ B.heap.size
  row : rb B = rb A ∨ ∃ r, rb B = some r ∧ A.heap.size ≤ r
  low : ∀ b, b < β → ¬ X b → B.heap[b]? = A.heap[b]?
  high : ∀ b cs T fr, A.heap[b]? = some (.cells cs T fr) → ¬ X b → rb A ≠ some b → B.heap[b]? = A.heap[b]?
theorem KR.trans {β : Nat} {X : Nat → Prop} {rb : World → Option Nat} {A B C : World} (h : KR β X rb A B) (k : KR β X rb B C) : KR β X rb A C := by
  refine ⟨Nat.le_trans h.size k.size, ?_, fun b hb hx => (k.low b hb hx).trans (h.low b hb hx), fun b cs T fr hc hx hr => ?_⟩
  · rcases k.row with e | ⟨r, e, hr⟩
    · rcases h.row with e2 | ⟨r, e2, hr⟩
      · exact .inl (e.trans e2)
      · exact .inr ⟨r, e.trans e2, hr⟩
    · exact .inr ⟨r, e, Nat.le_trans h.size hr⟩
  · have h1 := h.high b cs T fr hc hx hr
    refine (k.high b cs T fr (h1.trans hc) hx ?_).trans h1
    intro e
    rcases h.row with e2 | ⟨r, e2, hr2⟩
    · exact hr (e2 ▸ e)
    · rw [e2] at e
      injection e with e
      have := (Array.getElem?_eq_some_iff.1 hc).1
      omega
theorem KR.put {β : Nat} {X : Nat → Prop} {rb : World → Option Nat} (hrb : ∀ (W : World) (l : Nat) (o : Obj), β ≤ l → rb (W.putObj l o) = rb W) (W : World) (l : Nat) (o o' : Obj) (hl : β ≤ l) (ho : W.heap[l]? = some o') (hc : o'.isCells = false) : KR β X rb W (W.putObj l o) := by
  refine ⟨(grownBy_putObj' W l o).size, .inl (hrb W l o hl), fun b hb _ => World.putObj_heap_other (by omega), fun b cs T fr hcs _ _ => World.putObj_heap_other ?_⟩
  intro e
  subst e
  rw [hcs] at ho
  injection ho with ho
  subst ho
  cases hc
/-- The block of the row that block bl's slice names. -/
def rowBlk (bl : Nat) (W : World) : Option Nat := match W.heap[bl]? with
  | some (Obj.cells cs _ _) => (match cs[0]? with
    | some (Value.slice A _ _) => ablk A
    | _ => none)
  | _ => none
theorem rowBlk_of {bl n c : Nat} {W : World} {A : Option Addr} {T : TypeId} {fr : Nat × Nat} (h : W.heap[bl]? = some (.cells #[.slice A n c] T fr)) : rowBlk bl W = ablk A := by unfold rowBlk; rw [h]; rfl
theorem rowBlk_same {bl : Nat} {W W' : World} (h : W'.heap[bl]? = W.heap[bl]?) : rowBlk bl W' = rowBlk bl W := by unfold rowBlk; rw [h]
end Go.Silo
namespace Go.Proofs.Ytjeecdoffoahkaa
open Go.RowKit Go.Silo Go.Shelf
attribute [local go_sem] Oper.semAt_some

set_option maxRecDepth 100000 in
set_option maxHeartbeats 2000000 in
theorem round_c {w : World} {A0 A1 A2 : Option Addr} {n0 c0 n1 c1 n2 c2 : Nat} {s : Shape} {nx : Int} {c : Cursor} :
    Calls Try.prog 73 #[.agg #[.int .i64 s.K, .int .i64 s.M, .int .i64 s.size], .agg #[.slice A0 n0 c0, .slice A1 n1 c1, .slice A2 n2 c2, .int .i64 nx], .agg #[.int .i64 c.stripe, .int .i64 c.index]] w (fun e w' => e = .returned (.func (.func 125) #[] #[.pointer (some ⟨w.heap.size, 0, none⟩), .pointer (some ⟨w.heap.size + 1, 0, none⟩), .pointer (some ⟨w.heap.size + 1 + 1, 0, none⟩)]) ∧ w' = (((w.alloc (.cells #[.int .i64 s.K, .int .i64 s.M, .int .i64 s.size] 23)).alloc (.cells #[.slice A0 n0 c0, .slice A1 n1 c1, .slice A2 n2 c2, .int .i64 nx] 28)).alloc (.cells #[.int .i64 c.stripe, .int .i64 c.index] 44))) := by
  go_enter Try.func73, Try.ntmps73
  go_wp2
  go_ret
  exact ⟨rfl, rfl⟩
theorem behindX_on {s : Shape} {l : List Stripe} {c : Cursor} (h : 0 < l.length) : behindX s l c = nextX s l c := by unfold behindX; rw [if_pos h]

set_option maxRecDepth 100000 in
set_option maxHeartbeats 4000000 in
/-- The iterator: whatever the rounds do that keep its boxes, each is handed the next piece. -/
theorem round1_in {n : Nat} {tg tg1 : Bool} {S X : Nat → Prop} {rb : World → Option Nat} {β bs bb bc N : Nat} {s : Shape} {l : List Stripe} {nx : Int} {c : Cursor} {A0 A1 A2 : Option Addr} {n0 c0 n1 c1 n2 c2 : Nat} (lb : Nat) (J Jx : List Cursor → World → Prop) (W : World)
    (hsh : shapeOk s = true) (hn : n0 ≤ 4000) (hs : ∀ i j, i < j → j < n0 → (l.getD i default).id < (l.getD j default).id) (hid : ∀ j, j < l.length → 0 ≤ (l.getD j default).id ∧ (l.getD j default).id ≤ 1073741824) (hc : -1 ≤ c.stripe ∧ c.stripe ≤ 1073741824 ∧ -1 ≤ c.index ∧ c.index < s.K + s.M)
    (hrows : W.heap[bs]? = some (.cells #[.int .i64 s.K, .int .i64 s.M, .int .i64 s.size] 23 (0, 0)) ∧ W.heap[bb]? = some (.cells #[.slice A0 n0 c0, .slice A1 n1 c1, .slice A2 n2 c2, .int .i64 nx] 28 (0, 0))) (hbc : W.heap[bc]? = some (.cells #[.int .i64 c.stripe, .int .i64 c.index] 44 (0, 0)))
    (hSl : Sl tg 97 (stripeE tg1) W S A0 n0 c0 l)
    (hSβ : ∀ b, (S b ∨ b = bs ∨ b = bb ∨ b = bc) → b < β ∧ ¬ X b) (hXW : ∀ b, X b → b < β) (hβ : β ≤ W.heap.size)
    (hrb : ∀ A B : World, β ≤ A.heap.size → Below A.heap.size A B → rb B = rb A) (hrbs : ∀ (A B : World) (g : Nat), β ≤ g → (∀ b, b ≠ g → B.heap[b]? = A.heap[b]?) → B.heap.size = A.heap.size → rb B = rb A) (hrb0 : rb W = none)
    (hJS : ∀ pre A B, J pre A → Below A.heap.size A B → J pre B) (hJG : ∀ pre A B g, J pre A → β ≤ g → rb A ≠ some g → (∃ u v, A.heap[g]? = some (.cells #[u, v] 44 (0, 0))) → (∀ b, b ≠ g → B.heap[b]? = A.heap[b]?) → B.heap.size = A.heap.size → Below g A B → J pre B) (hJN : ∀ pre A, J pre A → pre.length < N)
    (hY : ∀ pre A, J pre A → 0 < n0 → YieldAt Fence.wide (n - 1) Try.prog lb #[.agg #[.int .i64 (turnsC s l c (pre.length + 1)).stripe, .int .i64 (turnsC s l c (pre.length + 1)).index]] A fun e B => (e = .returned (.bool true) ∧ J (pre ++ [turnsC s l c (pre.length + 1)]) B ∧ KR β X rb A B) ∨ (e = .returned (.bool false) ∧ Jx (pre ++ [turnsC s l c (pre.length + 1)]) B))
    (h0 : J [] W) :
    CallsIn Fence.wide n Try.prog 125 (#[.func (.yield lb) #[] #[]] ++ #[.pointer (some ⟨bs, 0, none⟩), .pointer (some ⟨bb, 0, none⟩), .pointer (some ⟨bc, 0, none⟩)]) W (fun e B => (∃ v, e = .returned v) ∧ ((∃ pre, Jx pre B) ∨ ∃ pre, J pre B ∧ n0 = 0)) := by
  obtain ⟨k1, k2, m1, m2, _, _⟩ := shapeOk_K hsh
  have HLL := Lib.hid hSl.len
  have HOK := Lib.hid (fun (h0 : 0 < n0) (k : Nat) => turnsC_ok (s := s) (l := l) (c := c) (by rw [HLL.out]; exact h0) (by omega) hid hc k)
  have HBE := Lib.hid (fun (V : World) (x : Cursor) (hx : -1 ≤ x.index ∧ x.index ≤ 100) (hV : Sl tg 97 (stripeE tg1) V S A0 n0 c0 l) => Behind_c (w := V) (A1 := A1) (A2 := A2) (n1 := n1) (c1 := c1) (n2 := n2) (c2 := c2) (nx := nx) (c := x) hsh hV hn hs hx)
  have HSB := Lib.hid hSβ; clear hSβ
  have HRB := Lib.hid hrb; clear hrb
  have HRB0 := Lib.hid hrb0; clear hrb0
  have HRBS := Lib.hid hrbs; clear hrbs
  have HXW := Lib.hid hXW; clear hXW
  have HJS := Lib.hid hJS; clear hJS
  have HJG := Lib.hid hJG; clear hJG
  have HJN := Lib.hid hJN; clear hJN
  have HY := Lib.hid hY; clear hY
  have HJ0 := Lib.hid h0; clear h0
  have HC := Lib.hid hc
  obtain ⟨hc1, hc2, hc3, hc4⟩ := hc
  obtain ⟨r0, r1⟩ := hrows
  refine callsIn_of_wp Try.func125 rfl trivial ?_ rfl
  simp only [Try.ntmps125, List.size_toArray, List.length_cons, List.length_nil, Nat.reduceAdd, Nat.reduceSub, Array.replicate_succ, Array.replicate_zero, List.push_toArray, List.append_toArray, List.cons_append, List.nil_append]
  have z0 := cell_of_row _ _ 0 _ _ _ r0
  have z1 := cell_of_row _ _ 1 _ _ _ r0
  have z2 := cell_of_row _ _ 2 _ _ _ r0
  have y0 := cell_of_row _ _ 0 _ _ _ r1
  have y1 := cell_of_row _ _ 1 _ _ _ r1
  have y2 := cell_of_row _ _ 2 _ _ _ r1
  have y3 := cell_of_row _ _ 3 _ _ _ r1
  have x0 := cell_of_row _ _ 0 _ _ _ hbc
  have x1 := cell_of_row _ _ 1 _ _ _ hbc
  gi_wp2_with fail
  refine ⟨trivial, (fun h => absurd h (by decide)), (callsIn_wide.2 (HBE.out _ c ⟨hc3, by omega⟩ hSl)).mono ?_⟩
  clear z0 z1 z2 y0 y1 y2 y3 x0 x1 hbc
  rintro e w1 ⟨rfl, hb1⟩
  by_cases hz : n0 = 0
  · rw [decide_eq_false (by omega : ¬ 0 < n0)]
    have HJ1 := Lib.hid (fun V (hV : Below W.heap.size W V) => HJS.out [] W V HJ0.out hV)
    generalize (behindX s l c) = bxc at *
    have HZ := Lib.hid hz
    have HB1 := Lib.hid hb1; clear hb1 hz
    have hw1 := HB1.out.size
    gi_wp2_with fail
    have HB2 : Hid (Below W.heap.size W (w1.alloc (.cells #[.int .i64 bxc.stripe, .int .i64 bxc.index] 44))) := Lib.hid (HB1.out.alloc hw1 _)
    generalize (w1.alloc (.cells #[.int .i64 bxc.stripe, .int .i64 bxc.index] 44)) = w2 at *
    gi_loopw [6] (fun ok wr => ok = .bool false ∧ wr = w2) (fun _ _ => 0)
    case atStart => exact ⟨rfl, rfl⟩
    case round =>
      obtain ⟨rfl, rfl⟩ := hrel
      gi_wp2
      refine ⟨(fun f h => by cases h), ?_⟩
      gi_wp2
      refine bodyPost_end (results_none rfl _ _ _) rfl ?_
      exact ⟨⟨_, rfl⟩, .inr ⟨[], HJ1.out _ HB2.out, HZ.out⟩⟩
  · have hz' : 0 < n0 := by omega
    rw [decide_eq_true hz', behindX_on (by rw [HLL.out]; exact hz')]
    have hw1 := hb1.size
    have hR5 : Hid (∀ V, Below W.heap.size W V → (V.heap[bs]? = some (.cells #[.int .i64 s.K, .int .i64 s.M, .int .i64 s.size] 23 (0, 0)) ∧ V.heap[bb]? = some (.cells #[.slice A0 n0 c0, .slice A1 n1 c1, .slice A2 n2 c2, .int .i64 nx] 28 (0, 0))) ∧ Sl tg 97 (stripeE tg1) V S A0 n0 c0 l) := Lib.hid (fun V hV => ⟨⟨(hV.block _ (Array.getElem?_eq_some_iff.1 r0).1).trans r0, (hV.block _ (Array.getElem?_eq_some_iff.1 r1).1).trans r1⟩, hSl.all hV⟩)
    have HB1 := Lib.hid hb1; clear hb1 hz r0 r1 hSl
    obtain ⟨y, hy⟩ : ∃ y, y = nextX s l c := ⟨_, rfl⟩
    rw [← hy]
    have HYD := Lib.hid hy; clear hy
    gi_wp2_with fail
    have hal : Below w1.heap.size w1 (w1.alloc (.cells #[.int .i64 y.stripe, .int .i64 y.index] 44)) := (Below.refl _ _).alloc (Nat.le_refl _) _
    have hg5 := heap_alloc_new w1 (.cells #[.int .i64 y.stripe, .int .i64 y.index] 44)
    have hg6 : w1.heap.size < (w1.alloc (.cells #[.int .i64 y.stripe, .int .i64 y.index] 44)).heap.size := by simp
    have HB2 := Lib.hid (HB1.out.trans (hal.mono HB1.out.size)); clear hal HB1
    generalize (w1.alloc (.cells #[.int .i64 y.stripe, .int .i64 y.index] 44)) = w2 at *
    have hg7 : β ≤ w1.heap.size := by omega
    generalize w1.heap.size = g5 at *
    have hβ2 : β ≤ w2.heap.size := by omega
    have HRB2 : Hid (rb w2 = none) := Lib.hid ((HRB.out W w2 hβ HB2.out).trans HRB0.out)
    obtain ⟨HR1, HS1⟩ := hR5.out w2 HB2.out
    have HJ2 := Lib.hid (HJS.out [] W w2 HJ0.out HB2.out)
    rw [HYD.out] at hg5
    clear hR5 HJ0 HRB0
    obtain ⟨RST, hRST⟩ : ∃ RST : Nat → World → Prop, RST = fun m wr => ∃ pre : List Cursor, pre.length + m = N ∧ J pre wr ∧ (wr.heap[bs]? = some (.cells #[.int .i64 s.K, .int .i64 s.M, .int .i64 s.size] 23 (0, 0)) ∧ wr.heap[bb]? = some (.cells #[.slice A0 n0 c0, .slice A1 n1 c1, .slice A2 n2 c2, .int .i64 nx] 28 (0, 0))) ∧ Sl tg 97 (stripeE tg1) wr S A0 n0 c0 l ∧ wr.heap[g5]? = some (.cells #[.int .i64 (turnsC s l c (pre.length + 1)).stripe, .int .i64 (turnsC s l c (pre.length + 1)).index] 44 (0, 0)) ∧ (∀ r, rb wr = some r → w2.heap.size ≤ r) ∧ w2.heap.size ≤ wr.heap.size := ⟨_, rfl⟩
    have HR := Lib.hid hRST; clear hRST
    gi_loopw [6] (fun ok wr => ok = .bool true ∧ ∃ m, RST m wr) (fun _ wr => ghostM RST wr)
    case atStart => exact ⟨rfl, N - 0, by rw [HR.out]; exact ⟨[], by have := HJN.out [] w2 HJ2.out; simp, HJ2.out, HR1, HS1, hg5, (fun r h => by rw [HRB2.out] at h; cases h), Nat.le_refl _⟩⟩
    case round =>
      obtain ⟨rfl, hrel⟩ := hrel
      clear HR1 HS1 hg5 HJ2
      obtain ⟨m, hm, hmu⟩ := ghost_at hrel
      have HMU := Lib.hid hmu; clear hmu hrel
      rw [HR.out] at hm
      obtain ⟨pre, hmN, hj, ⟨r0, r1⟩, hS, hg, hrr, hsz⟩ := hm
      have hlt := HJN.out pre wr hj
      have HSZ := Lib.hid hsz
      have HRR := Lib.hid hrr; clear hrr
      have zx0 := cell_of_row _ _ 0 _ _ _ hg
      have zx1 := cell_of_row _ _ 1 _ _ _ hg
      have hy := HY.out pre wr hj hz'
      have hok := HOK.out hz' (pre.length + 1)
      have HNX : Hid (turnsC s l c (pre.length + 1 + 1) = nextX s l (turnsC s l c (pre.length + 1))) := Lib.hid rfl
      obtain ⟨x, hx⟩ : ∃ x, x = turnsC s l c (pre.length + 1) := ⟨_, rfl⟩
      rw [← hx] at zx0 zx1 hy hok HNX hg
      have HXD := Lib.hid hx; clear hx
      obtain ⟨fn, tmps, assign, body, hy, hR⟩ := hy
      try dsimp only at hy
      have HGG := Lib.hid hg; clear hg
      have HSL := Lib.hid hS; clear hS
      have HRO := Lib.hid (And.intro r0 r1); clear r0 r1
      clear hj hsz
      gi_wp2
      refine ⟨(fun h => absurd h (by decide)), hR.mono ?_⟩
      rintro e W3 (⟨rfl, hJ3, hk3⟩ | ⟨rfl, hJx3⟩)
      · have hg5r : rb wr ≠ some g5 := fun h => by have := HRR.out _ h; omega
        have hg3 : W3.heap[g5]? = some (.cells #[.int .i64 x.stripe, .int .i64 x.index] 44 (0, 0)) := (hk3.high g5 _ _ _ HGG.out (fun h => by have := HXW.out _ h; omega) hg5r).trans HGG.out
        have hlow : ∀ b, (S b ∨ b = bs ∨ b = bb ∨ b = bc) → W3.heap[b]? = wr.heap[b]? := fun b hb => hk3.low b (HSB.out b hb).1 (HSB.out b hb).2
        have q0 := (hlow bs (.inr (.inl rfl))).trans HRO.out.1
        have q1 := (hlow bb (.inr (.inr (.inl rfl)))).trans HRO.out.2
        have hS3 := HSL.out.frame (w' := W3) (fun b hb _ => hlow b (.inl hb)) hk3.size
        have HS3 := Lib.hid hS3; clear hS3
        have hsz3 : w2.heap.size ≤ W3.heap.size := Nat.le_trans HSZ.out hk3.size
        have HRR3 : Hid (∀ r, rb W3 = some r → w2.heap.size ≤ r) := Lib.hid (fun r h => by
          rcases hk3.row with e | ⟨r', e, hr'⟩
          · exact HRR.out r (e ▸ h)
          · rw [e] at h; injection h with h; have := HSZ.out; omega)
        have HQQ := Lib.hid (And.intro q0 q1)
        have HG3 := Lib.hid hg3
        have HJ3 := Lib.hid hJ3; clear hJ3
        have z0 := cell_of_row _ _ 0 _ _ _ q0
        have z1 := cell_of_row _ _ 1 _ _ _ q0
        have z2 := cell_of_row _ _ 2 _ _ _ q0
        have y0 := cell_of_row _ _ 0 _ _ _ q1
        have y1 := cell_of_row _ _ 1 _ _ _ q1
        have y2 := cell_of_row _ _ 2 _ _ _ q1
        have y3 := cell_of_row _ _ 3 _ _ _ q1
        have x0 := cell_of_row _ _ 0 _ _ _ hg3
        have x1 := cell_of_row _ _ 1 _ _ _ hg3
        clear q0 q1 hg3 hlow hk3 zx0 zx1 hg5r HGG HSL HRO HRR hy hR
        gi_wp2_with fail
        refine ⟨trivial, (fun h => absurd h (by decide)), (callsIn_wide.2 (HBE.out _ x ⟨hok.2.2.1, by have := hok.2.2.2; omega⟩ HS3.out)).mono ?_⟩
        clear z0 z1 z2 y0 y1 y2 y3 x0 x1
        rintro e W4 ⟨rfl, hb4⟩
        rw [decide_eq_true hz', behindX_on (by rw [HLL.out]; exact hz'), ← HNX.out]
        obtain ⟨nxt, hnxt⟩ : ∃ nxt, nxt = turnsC s l c (pre.length + 1 + 1) := ⟨_, rfl⟩
        rw [← hnxt]
        have HNXD := Lib.hid hnxt; clear hnxt
        have hg4 := (hb4.block g5 (by omega)).trans HG3.out
        have x0 := (cell_of_row _ _ 0 _ _ _ hg4).trans (show _ = some (.int .i64 x.stripe : Value) from rfl)
        have x1 := (cell_of_row _ _ 1 _ _ _ hg4).trans (show _ = some (.int .i64 x.index : Value) from rfl)
        have f0 := frozen_of_row _ _ 0 _ _ hg4
        have f1 := frozen_of_row _ _ 1 _ _ hg4
        have NEXT : Hid (RST (m - 1) ((W4.setCell ⟨g5, 0, none⟩ (.int .i64 nxt.stripe)).setCell ⟨g5, 1, none⟩ (.int .i64 nxt.index))) := Lib.hid (by
          rw [HR.out]
          have hset : ∀ b, b ≠ g5 → (((W4.setCell ⟨g5, 0, none⟩ (.int .i64 nxt.stripe)).setCell ⟨g5, 1, none⟩ (.int .i64 nxt.index))).heap[b]? = W4.heap[b]? := fun b hb => (Below.heap_setCell _ ⟨g5, 1, none⟩ _ _ hb).trans (Below.heap_setCell _ ⟨g5, 0, none⟩ _ _ hb)
          have hbS : Below g5 W4 (((W4.setCell ⟨g5, 0, none⟩ (.int .i64 nxt.stripe)).setCell ⟨g5, 1, none⟩ (.int .i64 nxt.index))) := ((Below.refl _ _).setCell (p := ⟨g5, 0, none⟩) (Nat.le_refl _) _).setCell (p := ⟨g5, 1, none⟩) (Nat.le_refl _) _
          have hrb4 : rb W4 = rb W3 := HRB.out W3 W4 (by omega) hb4
          have hrb5 : rb ((W4.setCell ⟨g5, 0, none⟩ (.int .i64 nxt.stripe)).setCell ⟨g5, 1, none⟩ (.int .i64 nxt.index)) = rb W4 := HRBS.out W4 _ g5 hg7 hset (by simp)
          have hne : rb W4 ≠ some g5 := fun h => by rw [hrb4] at h; have := HRR3.out _ h; omega
          have HSTEP := HJG.out (pre ++ [x]) W4 _ g5 (HJS.out _ W3 W4 (HXD.out ▸ HJ3.out) hb4) hg7 hne ⟨_, _, hg4⟩ hset (by simp) hbS
          have RBS : ∀ r, rb ((W4.setCell ⟨g5, 0, none⟩ (.int .i64 nxt.stripe)).setCell ⟨g5, 1, none⟩ (.int .i64 nxt.index)) = some r → w2.heap.size ≤ r := fun r h => HRR3.out r (by rw [← hrb4, ← hrb5]; exact h)
          have hnxt' : (pre ++ [x]).length = pre.length + 1 := by simp
          exact ⟨pre ++ [x], by simp; omega, HSTEP, ⟨(hset bs (by have := (HSB.out bs (.inr (.inl rfl))).1; omega)).trans ((hb4.block bs (Array.getElem?_eq_some_iff.1 HQQ.out.1).1).trans HQQ.out.1), (hset bb (by have := (HSB.out bb (.inr (.inr (.inl rfl)))).1; omega)).trans ((hb4.block bb (Array.getElem?_eq_some_iff.1 HQQ.out.2).1).trans HQQ.out.2)⟩,
            (HS3.out.all hb4).frame (fun b hb _ => hset b (by have := (HSB.out b (.inl hb)).1; omega)) (by simp), by rw [hnxt', ← HNXD.out]; exact row_set2 hg4, RBS, by have := hb4.size; simp; omega⟩)
        gi_wp2
        go_roundw
        case rel => exact ⟨rfl, _, NEXT.out⟩
        case measure => rw [HMU.out]; exact Nat.lt_of_le_of_lt (ghost_le NEXT.out) (by omega)
      · gi_wp2
        refine bodyPost_end (results_none rfl _ _ _) rfl ?_
        exact ⟨⟨_, rfl⟩, .inl ⟨_, hJx3⟩⟩
end Go.Proofs.Ytjeecdoffoahkaa
