/- siloref11.Give. -/
import Derived.Test.YtfccghfcilccfaaG0
import Derived.Test.YtfccghfcilccfaaP3
import Derived.Test.YtfccghfcilccfaaT8
import Derived.Test.YtfccghfcilccfaaS4
import Derived.Test.YtfccghfcilccfaaB4
import Derived.Deep.Cut
import Derived.Deep.Upon
namespace Go.Proofs.Ytfccghfcilccfaa
open Go.RowKit Go.Silo

/-- 'append' of nothing, as one step of a region that draws its order. -/
theorem step_append_nothing {P : Program} {ops : Array Oper} {o : Oper} {a : Act} {w : World} {K : Act → World → Prop} {Q : Exit → Act → World → Prop} {X : Prop} (hgd : o.guard = none) (s x : Operand) (t e : TypeId)
    (ho : o.op = .call { callee := .builtin .append, args := #[s, x], argTypes := #[t, t] }) (i : TypeInfo) (ht : P.underlying t = some (.slice e)) (hi : P.info? e = some i)
    {A B : Option Addr} {n c cx : Nat} (hs : a.eval s = .slice A n c) (hle : n ≤ c) (hx : a.eval x = .slice B 0 cx) (hK : K (a.put o.dst (.slice A n c)) w) :
    if Region.wanted o (yielded ops a.tmps) = true then Oper.wp P o a w K Q else X := by
  have hw : Region.wanted o (yielded ops a.tmps) = true := by simp [Region.wanted, hgd]
  rw [if_pos hw]
  have hsrc : Src P i.size t (.slice B 0 cx) 0 [] w := by
    cases B with
    | none => exact Src.ofNil w ht cx
    | some ad => exact Src.ofSlice w ht ad 0 cx [] (by simp) (fun j u hj => by simp at hj) (fun u hu => by simp at hu)
  have hrun := run_append_nothing w t t o.type e i ht hi A n c hle (.slice B 0 cx) hsrc
  unfold Oper.wp
  simp [execOp, ho, resolve, invoke, builtin, hs, hx, hrun, Result.andThen]
  exact hK
theorem step_append_sl {α : Type} {P : Program} {T : TypeId} {E : Enc α} {w : World} {base : Nat} {S : Nat → Prop} {A : Option Addr} {n c : Nat} {xs : List α} {ops : Array Oper} {o : Oper} {a : Act} {K : Act → World → Prop} {Q : Exit → Act → World → Prop} {X : Prop} (hgd : o.guard = none) (s x : Operand) (t : TypeId)
    (ho : o.op = .call { callee := .builtin .append, args := #[s, x], argTypes := #[t, t] })
    (i : TypeInfo) (z : Value) (bytes : Nat) (ht : P.underlying t = some (.slice T)) (hi : P.info? T = some i) (hz : i.zero = some z)
    (hsize : i.size = E.sz) (hby : i.bytes = bytes) (hzs : z.cells.size = E.sz) (hsz : 0 < E.sz)
    (hs : a.eval s = .slice A n c) (hown : Own T E w base S A n c xs)
    {tg : Bool} {T' : TypeId} {S2 : Nat → Prop} {b off m cx : Nat} {ys : List α} (hx : a.eval x = .slice (some ⟨b, off, none⟩) m cx) (hsl : Sl tg T' E w S2 (some ⟨b, off, none⟩) m cx ys)
    (hR : ∀ vs y, y ∈ ys → E.R w S2 vs y → E.R w (fun b => S b ∧ some b ≠ ablk A) vs y)
    (h63 : n + m ≤ 9223372036854775807) (hbytes : (n + m) * bytes ≤ 140737488355328) (hbase : base ≤ w.heap.size)
    (h : ∀ A' c' w', Own T E w' base S A' (n + m) c' (xs ++ ys) → w.grownBy w' (ablk A) → (ablk A' = ablk A ∨ ablk A' = some w.heap.size) → K (a.put o.dst (.slice A' (n + m) c')) w') :
    if Region.wanted o (yielded ops a.tmps) = true then Oper.wp P o a w K Q else X := by
  have hw : Region.wanted o (yielded ops a.tmps) = true := by simp [Region.wanted, hgd]
  rw [if_pos hw]
  exact wp_append_sl s x t ho i z bytes ht hi hz hsize hby hzs hsz hs hown hx hsl hR h63 hbytes hbase h

theorem inOf_neg {l : List Int} {a : Int} (h : l.contains a = false) : inOf l a = -1 := by
  unfold inOf
  have : l.findIdx? (· == a) = none := by
    rw [List.findIdx?_eq_none_iff]
    intro x hx
    simp at h
    simp
    intro e
    subst e
    exact h hx
  rw [this]
theorem inOf_nonneg {l : List Int} {a : Int} (h : l.contains a = true) : 0 ≤ inOf l a := by
  unfold inOf
  cases hf : l.findIdx? (· == a) with
  | none =>
    rw [List.findIdx?_eq_none_iff] at hf
    have := hf a (by simpa using h)
    simp at this
  | some k => simp

theorem box_set0 {w : World} {g : Nat} {a b u : Value} {T : TypeId} (h : w.heap[g]? = some (.cells #[a, b] T (0, 0))) : (w.setCell ⟨g, 0, none⟩ u).heap[g]? = some (.cells #[u, b] T (0, 0)) := by
  simp only [World.setCell, Array.getElem?_modify, h]
  simp

theorem _root_.Go.Silo.Sl.drop {α : Type} {tg : Bool} {T : TypeId} {E : Enc α} {w : World} {S : Nat → Prop} {b off n c : Nat} {xs : List α} (h : Sl tg T E w S (some ⟨b, off, none⟩) n c xs) (hsz : E.sz = 1) {k : Nat} (hk : k < n) : Sl tg T E w S (some ⟨b, off + k, none⟩) (n - k) (c - k) (xs.drop k) := by
  obtain ⟨h1, h2, h3, h4⟩ := h
  refine ⟨by rw [List.length_drop]; omega, by omega, by omega, fun _ => ?_⟩
  obtain ⟨b', off', e, hb, hl, ht, hc⟩ := h4 (by omega)
  injection e with e; injection e with e1 e2 _; subst e1; subst e2
  refine ⟨b, off + k, rfl, hb, hl, ht, fun j y hj => ?_⟩
  rw [List.getElem?_drop] at hj
  obtain ⟨vs, hR, hcc⟩ := hc (k + j) y hj
  refine ⟨vs, hR, fun i v hv => ?_⟩
  have := hcc i v hv
  rw [hsz, Nat.mul_one] at this
  rw [hsz, Nat.mul_one, show off + k + j + i = off + (k + j) + i by omega]
  exact this

/-- The worlds between the steps of 'x.Free[s.Disk] = append(append(CopyNumbers(l[:k]), s.At), l[k:]...)'. -/
inductive WdRG (V : World) (k : Nat) (l : List Int) (a : Int) (b1 o1 : Nat) : List (Nat × Value) → World → Prop
  | n0 {w : World} : Below V.heap.size V w → WdRG V k l a b1 o1 [] w
  | nb {w : World} {g : Nat} : Below V.heap.size V w → w.heap[g]? = some (.cells #[.int .i64 a] 3 (0, 0)) → WdRG V k l a b1 o1 [(10, .slice (some ⟨g, 0, none⟩) 1 1)] w
  | nc {w : World} {A : Option Addr} {c : Nat} : Below V.heap.size V w → Own 3 intE w V.heap.size (fun _ => False) A k c (l.take k) → WdRG V k l a b1 o1 [(7, .slice A k c)] w
  | both {w : World} {A : Option Addr} {c g : Nat} {us : List (Nat × Value)} : Below V.heap.size V w → w.heap[g]? = some (.cells #[.int .i64 a] 3 (0, 0)) → Own 3 intE w V.heap.size (fun _ => False) A k c (l.take k) →
      (us = [(7, .slice A k c), (10, .slice (some ⟨g, 0, none⟩) 1 1)] ∨ us = [(10, .slice (some ⟨g, 0, none⟩) 1 1), (7, .slice A k c)]) → WdRG V k l a b1 o1 us w
  | a1 {w : World} {A : Option Addr} {c : Nat} {us : List (Nat × Value)} {u u' : Value} : Below V.heap.size V w → Own 3 intE w V.heap.size (fun _ => False) A (k + 1) c (l.take k ++ [a]) →
      (us = [(7, u), (10, u'), (11, .slice A (k + 1) c)] ∨ us = [(10, u'), (7, u), (11, .slice A (k + 1) c)]) → WdRG V k l a b1 o1 us w
  | a2 {w : World} {A : Option Addr} {c : Nat} {us : List (Nat × Value)} {u u' u2 : Value} : Below V.heap.size V w → Own 3 intE w V.heap.size (fun _ => False) A (l.length + 1) c (insAt k a l) →
      (us = [(7, u), (10, u'), (11, u2), (15, .slice A (l.length + 1) c)] ∨ us = [(10, u'), (7, u), (11, u2), (15, .slice A (l.length + 1) c)]) → WdRG V k l a b1 o1 us w
  | done {w w6 : World} {A : Option Addr} {c : Nat} {us : List (Nat × Value)} {u u' u2 u3 u4 : Value} : Below V.heap.size V w6 → Own 3 intE w6 V.heap.size (fun _ => False) A (l.length + 1) c (insAt k a l) → w = w6.setCell ⟨b1, o1, none⟩ (.slice A (l.length + 1) c) →
      (us = [(7, u), (10, u'), (11, u2), (15, u3), (17, u4)] ∨ us = [(10, u'), (7, u), (11, u2), (15, u3), (17, u4)]) → WdRG V k l a b1 o1 us w
theorem WdRG.below {V : World} {k : Nat} {l : List Int} {a : Int} {b1 o1 : Nat} {us : List (Nat × Value)} {w : World} (h : WdRG V k l a b1 o1 us w) (h17 : 17 ∉ us.map Prod.fst) : Below V.heap.size V w := by
  cases h with
  | done _ _ _ h => exact absurd (by rcases h with rfl | rfl <;> simp) h17
  | n0 h => exact h
  | nb h _ => exact h
  | nc h _ => exact h
  | both h _ _ _ => exact h
  | a1 h _ _ => exact h
  | a2 h _ _ => exact h

theorem own_base {w : World} {base base' : Nat} {S : Nat → Prop} {A : Option Addr} {n c : Nat} {xs : List Int} (h : Own 3 intE w base' S A n c xs) (hb : base ≤ base') : Own 3 intE w base S A n c xs := by
  obtain ⟨cells, ho, hl, hx⟩ := h
  refine ⟨cells, ⟨ho.1, ?_⟩, hl, hx⟩
  rcases ho.2 with h | ⟨g, cap, cur, hv, hg, r⟩
  · exact .inl h
  · exact .inr ⟨g, cap, cur, hv, Nat.le_trans hb hg, r⟩

/-- What the page's Give answers. -/
def refGiveR (x : SlotsD) (d : Nat) (a : Int) : SlotsD × Int := if (x.free.getD d []).contains a = true then (⟨[], []⟩, 4) else (giveX x d a, 0)

set_option maxRecDepth 100000 in
set_option maxHeartbeats 8000000 in
theorem refGive_c {tg : Bool} {S : Nat → Prop} {w : World} {A0 A1 : Option Addr} {n0 c0 n1 c1 : Nat} {x : SlotsD} {d : Nat} {a : Int} (hx : SlotsOk x) (hd : d < x.live.length) (ha : I64 a)
    (h0 : Sl tg 4 boolE w S A0 n0 c0 x.live) (h1 : Sl tg 52 (slE tg 3 intE) w S A1 n1 c1 x.free) :
    Calls Try.prog 125 #[.agg #[.slice A0 n0 c0, .slice A1 n1 c1], .agg #[.int .i64 (d : Int), .int .i64 a]] w (RetSE w (refGiveR x d a)) := by
  have HL0 := Lib.hid h0.len
  have HL1 := Lib.hid h1.len
  have hx1 := hx.one
  have hx2 := hx.most
  have hx3 := hx.same
  have e0 := HL0.out
  have e1 := HL1.out
  have hn0' : n0 ≤ 12 := by omega
  have hn1' : n1 = n0 := by omega
  have hdn : d < n0 := by omega
  have HF : Hid (∀ l ∈ x.free, l.length ≤ 100000000) := Lib.hid (fun l hl => by have := pigeon (hx.free l hl); omega)
  have HRI : Hid (Rising (x.free.getD d [])) := Lib.hid (hx.free _ (getD_mem (by omega)))
  have hl64 := pigeon HRI.out
  have HRR : Hid (refGiveR x d a = if (x.free.getD d []).contains a = true then (⟨[], []⟩, 4) else (giveX x d a, 0)) := Lib.hid rfl
  generalize refGiveR x d a = R at *
  clear hx1 hx2 hx3 e0 e1 hd hx
  subst hn1'
  have hb1 : Below w.heap.size w (((w.alloc (.cells #[.slice A0 n1 c0, .slice A1 n1 c1] 62)).alloc (.cells #[.int .i64 (d : Int), .int .i64 a] 104)).alloc (.cells #[.slice none 0 0, .slice none 0 0] 62)) := (by repeat' (first | (with_reducible exact Below.refl _ _) | (with_reducible refine Below.alloc ?_ ?_ _) | (with_reducible refine Below.drew ?_) | (with_reducible refine below_drewN ?_ _) | (with_reducible refine Below.setCell ?_ ?_ _) | (refine via ?_ (by with_reducible assumption) ?_) | (refine via ?_ (below_ext _ _) ?_) | go_size))
  have hbox1 : (((w.alloc (.cells #[.slice A0 n1 c0, .slice A1 n1 c1] 62)).alloc (.cells #[.int .i64 (d : Int), .int .i64 a] 104)).alloc (.cells #[.slice none 0 0, .slice none 0 0] 62)).heap[w.heap.size]? = some (.cells #[.slice A0 n1 c0, .slice A1 n1 c1] 62 (0, 0)) := by
    rw [Below.heap_alloc _ _ _ (by simp; omega)]; exact alloc2' _ _ _ _
  obtain ⟨hslot1, hres1⟩ := alloc3 w (.cells #[.slice A0 n1 c0, .slice A1 n1 c1] 62) #[.int .i64 (d : Int), .int .i64 a] #[.slice none 0 0, .slice none 0 0] 104 62
  have hz1 : (((w.alloc (.cells #[.slice A0 n1 c0, .slice A1 n1 c1] 62)).alloc (.cells #[.int .i64 (d : Int), .int .i64 a] 104)).alloc (.cells #[.slice none 0 0, .slice none 0 0] 62)).heap.size = w.heap.size + 3 := by simp
  have hcopy := CopySlots_c (h0.all hb1) (h1.all hb1) (by omega) (by omega) HF.out
  go_enter Try.func125, Try.ntmps125
  go_wp2_with fail
  refine hcopy.mono ?_
  clear hcopy
  generalize (((w.alloc (.cells #[.slice A0 n1 c0, .slice A1 n1 c1] 62)).alloc (.cells #[.int .i64 (d : Int), .int .i64 a] 104)).alloc (.cells #[.slice none 0 0, .slice none 0 0] 62)) = w1 at *
  have z0 : w.heap.size < w1.heap.size := by omega
  have z1 : w.heap.size + 1 < w1.heap.size := by omega
  have z2 : w.heap.size + 1 + 1 < w1.heap.size := by omega
  rintro e w2 ⟨vs, rfl, ⟨A3, n3, c3, A4, n4, c4, rfl, _, hs0, hs1⟩, hb2⟩
  obtain rfl : n3 = n1 := by have := hs0.len; have := HL0.out; omega
  obtain rfl : n4 = n3 := by have := hs1.len; have := HL1.out; omega
  have hw2 := (hb2.block _ z0).trans hbox1
  have hq2 := (hb2.block _ z1).trans hslot1
  have hr2 := (hb2.block _ z2).trans hres1
  have p0 := (cell_of_row w2 w.heap.size 0 _ _ _ hw2).trans (show _ = some (Value.slice A0 n4 c0) from rfl)
  have p1 := (cell_of_row w2 w.heap.size 1 _ _ _ hw2).trans (show _ = some (Value.slice A1 n4 c1) from rfl)
  have p2 := frozen_of_row w2 w.heap.size 0 _ _ hw2
  have p3 := frozen_of_row w2 w.heap.size 1 _ _ hw2
  have HW : Hid (((w2.setCell ⟨w.heap.size, 0, none⟩ (.slice A3 n4 c3)).setCell ⟨w.heap.size, 1, none⟩ (.slice A4 n4 c4)).heap[w.heap.size]? = some (.cells #[.slice A3 n4 c3, .slice A4 n4 c4] 62 (0, 0))) := Lib.hid (row_set2 hw2)
  have HQ : Hid (((w2.setCell ⟨w.heap.size, 0, none⟩ (.slice A3 n4 c3)).setCell ⟨w.heap.size, 1, none⟩ (.slice A4 n4 c4)).heap[w.heap.size + 1]? = some (.cells #[.int .i64 (d : Int), .int .i64 a] 104 (0, 0))) := Lib.hid (by rw [Below.heap_setCell _ _ _ _ (by simp), Below.heap_setCell _ _ _ _ (by simp)]; exact hq2)
  have HRS : Hid (((w2.setCell ⟨w.heap.size, 0, none⟩ (.slice A3 n4 c3)).setCell ⟨w.heap.size, 1, none⟩ (.slice A4 n4 c4)).heap[w.heap.size + 1 + 1]? = some (.cells #[.slice none 0 0, .slice none 0 0] 62 (0, 0))) := Lib.hid (by rw [Below.heap_setCell _ _ _ _ (by simp; omega), Below.heap_setCell _ _ _ _ (by simp; omega)]; exact hr2)
  have hk : Keeps (fun b => w1.heap.size ≤ b) w2 ((w2.setCell ⟨w.heap.size, 0, none⟩ (.slice A3 n4 c3)).setCell ⟨w.heap.size, 1, none⟩ (.slice A4 n4 c4)) := (by repeat' (first | (with_reducible exact Keeps.refl _ _) | (with_reducible refine Keeps.alloc ?_ _) | (with_reducible refine Keeps.drew ?_) | (with_reducible refine Keeps.drewN ?_ _) | (with_reducible refine Keeps.setCell ?_ ?_ _) | (refine Keeps.call ?_ (by with_reducible assumption)) | (with_reducible refine Keeps.ext ?_ _) | (simp; done) | (simp; omega) | omega))
  have HBW : Hid (Below w.heap.size w ((w2.setCell ⟨w.heap.size, 0, none⟩ (.slice A3 n4 c3)).setCell ⟨w.heap.size, 1, none⟩ (.slice A4 n4 c4))) := Lib.hid (by repeat' (first | (with_reducible exact Below.refl _ _) | (with_reducible refine Below.alloc ?_ ?_ _) | (with_reducible refine Below.drew ?_) | (with_reducible refine below_drewN ?_ _) | (with_reducible refine Below.setCell ?_ ?_ _) | (refine via ?_ (by with_reducible assumption) ?_) | (refine via ?_ (below_ext _ _) ?_) | go_size))
  have H0 := Lib.hid (hs0.keep hk)
  have H1 := Lib.hid (hs1.keep hk)
  have zW : w1.heap.size ≤ ((w2.setCell ⟨w.heap.size, 0, none⟩ (.slice A3 n4 c3)).setCell ⟨w.heap.size, 1, none⟩ (.slice A4 n4 c4)).heap.size := by have := hb2.size; simp; omega
  clear hw2 hq2 hr2 hbox1 hslot1 hres1 hk hs0 hs1 hb1 hb2
  go_upto_region 2 with (fail)
  clear p0 p1 p2 p3
  generalize ((w2.setCell ⟨w.heap.size, 0, none⟩ (.slice A3 n4 c3)).setCell ⟨w.heap.size, 1, none⟩ (.slice A4 n4 c4)) = W at *
  obtain ⟨b1, off1, Ad, nd, cd, rfl, hS1, hbl1, hrow, hc1, hf1⟩ := H1.out.sl_at hdn
  have hnd := hrow.len
  have hnd64 : nd ≤ 64 := by rw [← hnd]; exact hl64
  have p1 := (cell_of_row W w.heap.size 1 _ _ _ HW.out).trans (show _ = some (Value.slice (some ⟨b1, off1, none⟩) n4 c4) from rfl)
  have q0 := (cell_of_row W (w.heap.size + 1) 0 _ _ _ HQ.out).trans (show _ = some (Value.int .i64 (d : Int)) from rfl)
  have q1 := (cell_of_row W (w.heap.size + 1) 1 _ _ _ HQ.out).trans (show _ = some (Value.int .i64 a) from rfl)
  have HND := Lib.hid hnd; clear hnd
  have HROW := Lib.hid hrow; clear hrow
  have hin := In_c (w := W) (x := a) HROW.out
  go_wp2_with fail
  refine hin.mono ?_
  clear hin
  rintro e w3 ⟨rfl, hb3⟩
  have s3 := hb3.size
  have HB3 := Lib.hid hb3; clear hb3
  generalize hthe : (x.free.getD d []).contains a = the at *
  have HTHE := Lib.hid hthe; clear hthe
  cases the with
  | true =>
    have hio := inOf_nonneg HTHE.out
    generalize inOf (x.free.getD d []) a = io at *
    have hrs3 := (HB3.out.block (w.heap.size + 1 + 1) (by omega)).trans HRS.out
    have r0 := (cell_of_row w3 (w.heap.size + 1 + 1) 0 _ _ _ hrs3).trans (show _ = some (Value.slice none 0 0) from rfl)
    have r1 := (cell_of_row w3 (w.heap.size + 1 + 1) 1 _ _ _ hrs3).trans (show _ = some (Value.slice none 0 0) from rfl)
    have r2 := frozen_of_row w3 (w.heap.size + 1 + 1) 0 _ _ hrs3
    have r3 := frozen_of_row w3 (w.heap.size + 1 + 1) 1 _ _ hrs3
    clear hrs3 p1 q0 q1 hc1 hf1
    go_wp2
    refine bodyPost_ret (v := .tuple #[.agg #[.slice none 0 0, .slice none 0 0], .int .i64 4]) (by simp [results, Try.results125, go_sem, *]; done) rfl ?_
    have hB := HBW.out.trans (HB3.out.mono (by omega))
    exact RetSE.bad (HRR.out.trans (if_pos trivial)) ((hB.setCell (by simp; omega) _).setCell (by simp; omega) _)
  | false =>
    rw [inOf_neg HTHE.out]
    obtain ⟨i0, hi0, hz0, hz1', hz2⟩ := info_parts Try.info_Int
    go_wp2_with fail
    go_loopw [7] (fun iv wr => ∃ k : Nat, k ≤ nd ∧ iv = .int .i64 k ∧ Below w3.heap.size w3 wr ∧ Hid (∀ j, j < k → (x.free.getD d []).getD j 0 < a)) (fun iv _ => nd - (intOf iv).toNat)
    case atStart => exact ⟨0, Nat.zero_le _, rfl, Below.refl _ _, Lib.hid (fun j hj => by omega)⟩
    case round =>
      rename World => wo
      obtain ⟨k, hk, rfl, hBo, HLT⟩ := hrel
      have so := hBo.size
      have hBWo : Below W.heap.size W wo := HB3.out.trans (hBo.mono s3)
      have HBo := Lib.hid hBo; clear hBo
      have t1 := (hBWo.cell (p := ⟨w.heap.size + 1, 1, none⟩) (show w.heap.size + 1 < W.heap.size by omega)).trans q1
      have hzq : w.heap.size + 1 < wo.heap.size := by omega
      by_cases hlt : k < nd
      · obtain ⟨bl, ol, rfl, hSl, hbll, hI, l0, _⟩ := (HROW.out.all hBWo).int_at hlt
        clear hBWo
        generalize hlk : (x.free.getD d []).getD k 0 = lk at *
        have HLK := Lib.hid hlk; clear hlk
        by_cases hv : lk < a
        · go_wp2_with fail
          have hext := cell_ext wo
          refine region_ext (by kernel_rfl) (by kernel_rfl) ?_
          repeat (go_big_quiet_step (fail))
          refine wpQuiet_nil ?_
          rintro _ ⟨X, rfl⟩
          go_wp2
          go_roundw
          case rel => exact ⟨k + 1, by omega, by go_num, HBo.out.trans ((below_ext wo X).mono so), Lib.hid (fun j hj => by
            by_cases h : j = k
            · subst h; rw [HLK.out]; exact hv
            · exact HLT.out j (by omega))⟩
          case measure => simp [intOf]; omega
        · have HGE : Hid (k < nd → a ≤ (x.free.getD d []).getD k 0) := Lib.hid (fun _ => by rw [HLK.out]; omega)
          go_wp2_with fail
          have hext := cell_ext wo
          refine region_ext (by kernel_rfl) (by kernel_rfl) ?_
          repeat (go_big_quiet_step (fail))
          refine wpQuiet_nil ?_
          rintro _ ⟨X, rfl⟩
          have hV := below_ext wo X
          have hB3 : Below w3.heap.size w3 (wo.ext X) := HBo.out.trans (hV.mono so)
          have sV : w3.heap.size ≤ (wo.ext X).heap.size := hB3.size
          clear hV HBo so l0 t1 hext
          generalize wo.ext X = V at *
          have hBWV : Below W.heap.size W V := HB3.out.trans (hB3.mono HB3.out.size)
          have hrV := HROW.out.all hBWV
          have h1V := H1.out.all hBWV
          have h0V := H0.out.all hBWV
          have m1 := (hBWV.cell (p := ⟨w.heap.size, 1, none⟩) (show w.heap.size < W.heap.size by omega)).trans p1
          have m2 := (hBWV.cell (p := ⟨w.heap.size + 1, 0, none⟩) (show w.heap.size + 1 < W.heap.size by omega)).trans q0
          have m3 := (hBWV.cell (p := ⟨w.heap.size + 1, 1, none⟩) (show w.heap.size + 1 < W.heap.size by omega)).trans q1
          have m4 := (hBWV.cell (p := ⟨b1, off1 + d, none⟩) hbl1).trans hc1
          have m5 := (hBWV.frozen (p := ⟨b1, off1 + d, none⟩) hbl1).trans hf1
          have zV : W.heap.size ≤ V.heap.size := hBWV.size
          have cells : ∀ us w6, WdRG V k (x.free.getD d []) a b1 (off1 + d) us w6 → 17 ∉ us.map Prod.fst → w6.cell? ⟨w.heap.size, 1, none⟩ = some (.slice (some ⟨b1, off1, none⟩) n4 c4) ∧ w6.cell? ⟨w.heap.size + 1, 0, none⟩ = some (.int .i64 (d : Int)) ∧ w6.cell? ⟨w.heap.size + 1, 1, none⟩ = some (.int .i64 a) ∧ w6.cell? ⟨b1, off1 + d, none⟩ = some (.slice (some ⟨bl, ol, none⟩) nd cd) ∧ w6.frozen? ⟨b1, off1 + d, none⟩ = false := by
            intro us w6 hW h17
            have hB := hW.below h17
            exact ⟨(hB.cell (p := ⟨w.heap.size, 1, none⟩) (by show w.heap.size < V.heap.size; omega)).trans m1, (hB.cell (p := ⟨w.heap.size + 1, 0, none⟩) (by show w.heap.size + 1 < V.heap.size; omega)).trans m2, (hB.cell (p := ⟨w.heap.size + 1, 1, none⟩) (by show w.heap.size + 1 < V.heap.size; omega)).trans m3, (hB.cell (p := ⟨b1, off1 + d, none⟩) (by show b1 < V.heap.size; omega)).trans m4, (hB.frozen (p := ⟨b1, off1 + d, none⟩) (by show b1 < V.heap.size; omega)).trans m5⟩
          have CELLS := Lib.hid cells; clear cells
          have HRV := Lib.hid hrV; clear hrV
          have H1V := Lib.hid h1V; clear h1V
          have H0V := Lib.hid h0V; clear h0V
          have HBWV := Lib.hid hBWV; clear hBWV
          have htk : ((x.free.getD d []).take k).length = k := by rw [List.length_take]; have := HND.out; omega
          have htake : Sl true 3 intE V (fun b => w1.heap.size ≤ b) (some ⟨bl, ol, none⟩) k cd ((x.free.getD d []).take k) := by
            have h := HRV.out
            refine ⟨htk, by have := h.le; omega, h.cap, fun h0 => ?_⟩
            obtain ⟨b, off, e, hb, hl, ht, hc⟩ := h.2.2.2 (by omega)
            refine ⟨b, off, e, hb, hl, ht, fun j y hj => hc j y ?_⟩
            rw [List.getElem?_take] at hj
            split at hj
            · exact hj
            · cases hj
          have hcd : nd ≤ cd := HRV.out.le
          have hcd2 : cd ≤ 9223372036854775807 := HRV.out.cap
          have hkcd : k ≤ cd := by omega
          have HTK := Lib.hid htake; clear htake
          clear m1 m2 m3 m4 m5 p1 q0 q1 hc1 hf1 htk
          go_wp2_with fail
          refine region_free (by kernel_rfl) (by kernel_rfl) 55 rfl [37, 38, 39, 40, 41, 42, 43, 44, 45, 46, 47, 48, 49, 50, 51, 52, 53] [7, 10, 11, 15, 17] [(44, 7), (47, 10), (48, 11), (52, 15)]
            [(37, [], fun _ => .pointer (some ⟨w.heap.size, 1, none⟩)), (38, [], fun _ => .slice (some ⟨b1, off1, none⟩) n4 c4), (39, [], fun _ => .pointer (some ⟨w.heap.size + 1, 0, none⟩)), (40, [], fun _ => .int .i64 (d : Int)), (41, [], fun _ => .slice (some ⟨bl, ol, none⟩) nd cd), (42, [], fun _ => .int .i64 (k : Int)), (43, [], fun _ => .slice (some ⟨bl, ol, none⟩) k cd), (45, [], fun _ => .pointer (some ⟨w.heap.size + 1, 1, none⟩)), (46, [], fun _ => .int .i64 a),
              (49, [], fun _ => .slice (some ⟨bl, ol, none⟩) nd cd), (50, [], fun _ => .int .i64 (k : Int)), (51, [], fun _ => .slice (some ⟨bl, ol + k, none⟩) (nd - k) (cd - k)), (53, [], fun _ => .pointer (some ⟨b1, off1 + d, none⟩))]
            [[], [17], [], [17], [], [], [], [11], [], [17], [11], [15], [], [], [], [17], [], []] [[], [], [], [], [], [], [], [], [], [], [], [7, 10], [], [], [], [11], [], [15]]
            [[], [37], [], [39], [], [], [41, 42], [43], [], [45], [46], [44, 47], [], [], [49, 50], [48, 51], [38, 40], [53, 52]] (WdRG V k (x.free.getD d []) a b1 (off1 + d)) (by kernel_rfl) (.n0 (Below.refl _ _).drew)
            ⟨?_, ?_, ?_, ?_, ?_, ?_, ?_, ?_, ?_, ?_, ?_, ?_, ?_, ?_, ?_, ?_, ?_, ?_, trivial⟩ ?_
          · (refine OpH.rd rfl rfl (fun ρ us w6 ho ht hc hl hsrc hW => ?_); have e2 := (ho 2 rfl).trans (show _ = (.pointer (some ⟨w.heap.size, 0, none⟩) : Value) from rfl); clear ht ho; simp only [execOp, e2]; go_simp; try rfl)
          · (refine OpH.rd rfl rfl (fun ρ us w6 ho ht hc hl hsrc hW => ?_); have e37 := (ht 37 (by decide)).trans (show _ = (.pointer (some ⟨w.heap.size, 1, none⟩) : Value) from rfl); obtain ⟨y0, y1, y2, y3, y4⟩ := CELLS.out us w6 hW (hl 17 (by decide)); clear ht ho; simp only [execOp, e37]; go_simp; try rfl)
          · (refine OpH.rd rfl rfl (fun ρ us w6 ho ht hc hl hsrc hW => ?_); have e3 := (ho 3 rfl).trans (show _ = (.pointer (some ⟨w.heap.size + 1, 0, none⟩) : Value) from rfl); clear ht ho; simp only [execOp, e3]; go_simp; try rfl)
          · (refine OpH.rd rfl rfl (fun ρ us w6 ho ht hc hl hsrc hW => ?_); have e39 := (ht 39 (by decide)).trans (show _ = (.pointer (some ⟨w.heap.size + 1, 0, none⟩) : Value) from rfl); obtain ⟨y0, y1, y2, y3, y4⟩ := CELLS.out us w6 hW (hl 17 (by decide)); clear ht ho; simp only [execOp, e39]; go_simp; try rfl)
          · (refine OpH.rd rfl rfl (fun ρ us w6 ho ht hc hl hsrc hW => ?_); have e6 := (ho 6 rfl).trans (show _ = (.slice (some ⟨bl, ol, none⟩) nd cd : Value) from rfl); clear ht ho; simp only [execOp, e6]; go_simp; try rfl)
          · (refine OpH.rd rfl rfl (fun ρ us w6 ho ht hc hl hsrc hW => ?_); have e7 := (ho 7 rfl).trans (show _ = (.int .i64 (k : Int) : Value) from rfl); clear ht ho; simp only [execOp, e7]; go_simp; try rfl)
          · (refine OpH.rd rfl rfl (fun ρ us w6 ho ht hc hl hsrc hW => ?_); have e41 := (ht 41 (by decide)).trans (show _ = (.slice (some ⟨bl, ol, none⟩) nd cd : Value) from rfl); have e42 := (ht 42 (by decide)).trans (show _ = (.int .i64 (k : Int) : Value) from rfl); clear ht ho; simp only [execOp, Option.map_some, Option.map_none, e41, e42]; go_simp; (first | rfl | (rw [if_pos (by omega)]; rfl)))
          · refine OpH.wr rfl (fun A us w6 ho ht hni hlim hreq hW K hK => ?_)
            have e43 := (ht 43 (by decide)).trans (show _ = (.slice (some ⟨bl, ol, none⟩) k cd : Value) from rfl)
            have hl := hlim
            have h17 : 17 ∉ us.map Prod.fst := by
              intro h
              cases hW with
              | done _ _ _ h => exact absurd (by rcases h with rfl | rfl <;> simp) hni
              | n0 _ => simp at h
              | nb _ _ => simp at h
              | nc _ _ => simp at h
              | both _ _ _ h' => rcases h' with rfl | rfl <;> simp at h
              | a1 _ _ h' => rcases h' with rfl | rfl <;> simp at h
              | a2 _ _ h' => rcases h' with rfl | rfl <;> simp at h
            have hB6 := hW.below h17
            have hcp := CopyNumbers_c (w := w6) (HTK.out.all hB6) (by omega)
            unfold RetOwn at hcp
            rw [HTK.out.len] at hcp
            refine step_call rfl 65 #[.tmp 43] #[52] rfl Try.func65 (by kernel_rfl) (by kernel_rfl) #[.slice (some ⟨bl, ol, none⟩) k cd] (by simp [e43]) (hcp) ?_
            rintro e w7 ⟨A7, c7, rfl, hown7, hb7⟩
            have hB7 : Below V.heap.size V w7 := hB6.trans (hb7.mono hB6.size)
            have hO7 : Own 3 intE w7 V.heap.size (fun _ => False) A7 k c7 ((x.free.getD d []).take k) := own_base hown7.flatS hB6.size
            refine ⟨_, rfl, hK _ _ ?_⟩
            cases hW with
            | n0 _ => exact .nc hB7 hO7
            | nb _ hrow => exact .both hB7 ((hb7.block _ (Array.getElem?_eq_some_iff.1 hrow).1).trans hrow) hO7 (.inr rfl)
            | nc _ _ => exact absurd (by simp) hni
            | both _ _ _ h => exact absurd (by rcases h with rfl | rfl <;> simp) hni
            | a1 _ _ h => exact absurd (by rcases h with rfl | rfl <;> simp) hni
            | a2 _ _ h => exact absurd (by rcases h with rfl | rfl <;> simp) hni
            | done _ _ _ h => exact absurd (by rcases h with rfl | rfl <;> simp) hni
          · (refine OpH.rd rfl rfl (fun ρ us w6 ho ht hc hl hsrc hW => ?_); have e3 := (ho 3 rfl).trans (show _ = (.pointer (some ⟨w.heap.size + 1, 0, none⟩) : Value) from rfl); clear ht ho; simp only [execOp, e3]; go_simp; try rfl)
          · (refine OpH.rd rfl rfl (fun ρ us w6 ho ht hc hl hsrc hW => ?_); have e45 := (ht 45 (by decide)).trans (show _ = (.pointer (some ⟨w.heap.size + 1, 1, none⟩) : Value) from rfl); obtain ⟨y0, y1, y2, y3, y4⟩ := CELLS.out us w6 hW (hl 17 (by decide)); clear ht ho; simp only [execOp, e45]; go_simp; try rfl)
          · refine OpH.wr rfl (fun A us w6 ho ht hni hlim hreq hW K hK => ?_)
            have e46 := (ht 46 (by decide)).trans (show _ = (.int .i64 a : Value) from rfl)
            have key : ∀ g, g = w6.heap.size → WdRG V k (x.free.getD d []) a b1 (off1 + d) (us ++ [(10, .slice (some ⟨g, 0, none⟩) 1 1)]) (w6.alloc (.cells #[.int .i64 a] 3)) := by
              rintro g rfl
              cases hW with
              | n0 hB => exact .nb (hB.alloc hB.size _) (heap_alloc_new _ _)
              | nc hB hO => exact .both (hB.alloc hB.size _) (heap_alloc_new _ _) (hO.frame (Agree.alloc _ _ _) (by simp)) (.inl rfl)
              | nb _ _ => exact absurd (by simp) hni
              | both _ _ _ h => exact absurd (by rcases h with rfl | rfl <;> simp) hni
              | a1 _ _ h => exact absurd (by rcases h with rfl | rfl <;> simp) hni
              | a2 _ _ h => exact absurd (by rcases h with rfl | rfl <;> simp) hni
              | done _ _ _ h => exact absurd (by rcases h with rfl | rfl <;> simp) hni
            have KEY := Lib.hid key; clear key hW hni hlim hreq ho ht
            rw [if_pos (by simp [Region.wanted])]
            unfold Oper.wp
            generalize A.eval = ρ at *
            simp only [execOp, List.map_toArray, List.map_cons, List.map_nil, e46]
            go_simp
            exact hK _ _ (KEY.out _ rfl)
          · refine OpH.wr rfl (fun A us w6 ho ht hni hlim hreq hW K hK => ?_)
            have r7 := hreq 7 (by decide)
            have r10 := hreq 10 (by decide)
            cases hW with
            | n0 _ => exact absurd r7 (by simp)
            | nb _ _ => exact absurd r7 (by simp)
            | nc _ _ => exact absurd r10 (by simp)
            | a1 _ _ h => exact absurd (by rcases h with rfl | rfl <;> simp) hni
            | a2 _ _ h => exact absurd (by rcases h with rfl | rfl <;> simp) hni
            | done _ _ _ h => exact absurd (by rcases h with rfl | rfl <;> simp) hni
            | @both _ A7 c7 g _ hB hrow hO hus =>
              have e44 := (ht 44 (by decide)).trans (show _ = (.slice A7 k c7 : Value) from by rcases hus with rfl | rfl <;> rfl)
              have e47 := (ht 47 (by decide)).trans (show _ = (.slice (some ⟨g, 0, none⟩) 1 1 : Value) from by rcases hus with rfl | rfl <;> rfl)
              refine step_append1 rfl (.tmp 44) (.tmp 47) 52 rfl i0 (.int .i64 0) 8 Try.underlying52 hi0 hz0 hz1' hz2 rfl (by decide) e44 hO g 3 1 _ a e47 hrow (intE_R ha) (by omega) (by omega) hB.size ?_
              intro A9 c9 w9 hown9 hg9 _
              exact hK _ _ (.a1 (hB.grown hg9 hB.size (fun r hr => (hO.lt r hr).1)) hown9 (by rcases hus with rfl | rfl; exact .inl rfl; exact .inr rfl))
          · (refine OpH.rd rfl rfl (fun ρ us w6 ho ht hc hl hsrc hW => ?_); have e6 := (ho 6 rfl).trans (show _ = (.slice (some ⟨bl, ol, none⟩) nd cd : Value) from rfl); clear ht ho; simp only [execOp, e6]; go_simp; try rfl)
          · (refine OpH.rd rfl rfl (fun ρ us w6 ho ht hc hl hsrc hW => ?_); have e7 := (ho 7 rfl).trans (show _ = (.int .i64 (k : Int) : Value) from rfl); clear ht ho; simp only [execOp, e7]; go_simp; try rfl)
          · (refine OpH.rd rfl rfl (fun ρ us w6 ho ht hc hl hsrc hW => ?_); have e49 := (ht 49 (by decide)).trans (show _ = (.slice (some ⟨bl, ol, none⟩) nd cd : Value) from rfl); have e50 := (ht 50 (by decide)).trans (show _ = (.int .i64 (k : Int) : Value) from rfl); clear ht ho; simp only [execOp, Option.map_some, Option.map_none, e49, e50]; go_simp; (first | rfl | (rw [if_neg (by omega)]; rfl)))
          · refine OpH.wr rfl (fun A us w6 ho ht hni hlim hreq hW K hK => ?_)
            have r11 := hreq 11 (by decide)
            cases hW with
            | n0 _ => exact absurd r11 (by simp)
            | nb _ _ => exact absurd r11 (by simp)
            | nc _ _ => exact absurd r11 (by simp)
            | both _ _ _ h => exact absurd r11 (by rcases h with rfl | rfl <;> simp)
            | a2 _ _ h => exact absurd (by rcases h with rfl | rfl <;> simp) hni
            | done _ _ _ h => exact absurd (by rcases h with rfl | rfl <;> simp) hni
            | @a1 _ A7 c7 _ u u' hB hO hus =>
              have e48 := (ht 48 (by decide)).trans (show _ = (.slice A7 (k + 1) c7 : Value) from by rcases hus with rfl | rfl <;> rfl)
              have e51 := (ht 51 (by decide)).trans (show _ = (.slice (some ⟨bl, ol + k, none⟩) (nd - k) (cd - k) : Value) from rfl)
              refine step_append_sl rfl (.tmp 48) (.tmp 51) 52 rfl i0 (.int .i64 0) 8 Try.underlying52 hi0 hz0 hz1' hz2 rfl (by decide) e48 hO e51 ((HRV.out.all hB).drop rfl hlt) (fun vs y _ h => h) (by omega) (by omega) hB.size ?_
              intro A9 c9 w9 hown9 hg9 _
              rw [show k + 1 + (nd - k) = (x.free.getD d []).length + 1 by have := HND.out; omega, show (x.free.getD d []).take k ++ [a] ++ (x.free.getD d []).drop k = insAt k a (x.free.getD d []) by simp [insAt]] at hown9
              rw [show k + 1 + (nd - k) = (x.free.getD d []).length + 1 by have := HND.out; omega]
              exact hK _ _ (.a2 (hB.grown hg9 hB.size (fun r hr => (hO.lt r hr).1)) hown9 (by rcases hus with rfl | rfl; exact .inl rfl; exact .inr rfl))
          · (refine OpH.rd rfl rfl (fun ρ us w6 ho ht hc hl hsrc hW => ?_); have e38 := (ht 38 (by decide)).trans (show _ = (.slice (some ⟨b1, off1, none⟩) n4 c4 : Value) from rfl); have e40 := (ht 40 (by decide)).trans (show _ = (.int .i64 (d : Int) : Value) from rfl); clear ht ho; simp only [execOp, e38, e40]; go_simp; try rfl)
          · refine OpH.wr rfl (fun A us w6 ho ht hni hlim hreq hW K hK => ?_)
            have r15 := hreq 15 (by decide)
            cases hW with
            | n0 _ => exact absurd r15 (by simp)
            | nb _ _ => exact absurd r15 (by simp)
            | nc _ _ => exact absurd r15 (by simp)
            | both _ _ _ h => exact absurd r15 (by rcases h with rfl | rfl <;> simp)
            | a1 _ _ h => exact absurd r15 (by rcases h with rfl | rfl <;> simp)
            | done _ _ _ h => exact absurd (by rcases h with rfl | rfl <;> simp) hni
            | @a2 _ A7 c7 _ u u' u2 hB hO hus =>
              have e53 := (ht 53 (by decide)).trans (show _ = (.pointer (some ⟨b1, off1 + d, none⟩) : Value) from rfl)
              have e52 := (ht 52 (by decide)).trans (show _ = (.slice A7 ((x.free.getD d []).length + 1) c7 : Value) from by rcases hus with rfl | rfl <;> rfl)
              obtain ⟨y0, y1, y2, y3, y4⟩ := CELLS.out us w6 (.a2 hB hO hus) (by rcases hus with rfl | rfl <;> simp)
              have hd : WdRG V k (x.free.getD d []) a b1 (off1 + d) (us ++ [(17, undef)]) (w6.setCell ⟨b1, off1 + d, none⟩ (.slice A7 ((x.free.getD d []).length + 1) c7)) := .done hB hO rfl (by rcases hus with rfl | rfl; exact .inl rfl; exact .inr rfl)
              have HD := Lib.hid hd
              clear hd hO hB hus ht ho hni hlim hreq r15
              rw [if_pos (by simp [Region.wanted])]
              unfold Oper.wp
              generalize A.eval = ρ at *
              simp only [execOp, e53, e52]
              go_simp
              exact hK undef _ HD.out
          · intro us w7 hmem hW
            have r17 := hmem 17 (by decide)
            cases hW with
            | n0 _ => exact absurd r17 (by simp)
            | nb _ _ => exact absurd r17 (by simp)
            | nc _ _ => exact absurd r17 (by simp)
            | both _ _ _ h => exact absurd r17 (by rcases h with rfl | rfl <;> simp)
            | a1 _ _ h => exact absurd r17 (by rcases h with rfl | rfl <;> simp)
            | a2 _ _ h => exact absurd r17 (by rcases h with rfl | rfl <;> simp)
            | @done _ w6 A7 c7 _ u u' u2 u3 u4 hB hO hw7 hus =>
              subst hw7
              simp only [putAll, List.map_cons, List.map_nil, List.foldl_cons, List.foldl_nil, Act.put, List.setIfInBounds_toArray, List.set_cons_succ, List.set_cons_zero]
              generalize slotAt _ _ us = sv
              have hBW6 : Below W.heap.size W w6 := HBWV.out.trans (hB.mono zV)
              have h16 := H1V.out.all hB
              have h06 := H0V.out.all hB
              have hrs6 := (hBW6.block (w.heap.size + 1 + 1) (by omega)).trans HRS.out
              have hw6' := (hBW6.block w.heap.size (by omega)).trans HW.out
              have hO2 : Sl true 3 intE w6 (fun b => w1.heap.size ≤ b) A7 ((x.free.getD d []).length + 1) c7 (insAt k a (x.free.getD d [])) := (hO.sl (tg := true)).mono (fun b hb _ => by rcases hb with hb | hb; exact hb.elim; omega)
              have hf7 := h16.set1 rfl (Avoids.slE (intE_avoids _) (by decide)) hdn (v := .slice A7 ((x.free.getD d []).length + 1) c7) (y := insAt k a (x.free.getD d [])) ⟨_, _, _, rfl, hO2⟩
              obtain ⟨q, hq⟩ := Sl.tagAt h16 (by omega)
              have hl7 := ((Turns.refl (fun b => w1.heap.size ≤ b) _ w6).setCell (p := ⟨b1, off1 + d, none⟩) hS1 hq (.slice A7 ((x.free.getD d []).length + 1) c7)).sl (boolE_avoids _) (by decide) h06
              have hS1' : w1.heap.size ≤ b1 := hS1
              have hB7 : Below w.heap.size w (w6.setCell ⟨b1, off1 + d, none⟩ (.slice A7 ((x.free.getD d []).length + 1) c7)) := (HBW.out.trans (hBW6.mono (by omega))).setCell (show w.heap.size ≤ b1 by omega) _
              have hrs7 : (w6.setCell ⟨b1, off1 + d, none⟩ (.slice A7 ((x.free.getD d []).length + 1) c7)).heap[w.heap.size + 1 + 1]? = some (.cells #[.slice none 0 0, .slice none 0 0] 62 (0, 0)) := by rw [Below.heap_setCell _ _ _ _ (by simp; omega)]; exact hrs6
              have hw7' : (w6.setCell ⟨b1, off1 + d, none⟩ (.slice A7 ((x.free.getD d []).length + 1) c7)).heap[w.heap.size]? = some (.cells #[.slice A3 n4 c3, .slice (some ⟨b1, off1, none⟩) n4 c4] 62 (0, 0)) := by rw [Below.heap_setCell _ _ _ _ (by simp; omega)]; exact hw6'
              have hcnt : (x.free.getD d []).countP (· < a) = k := countP_lt_at (rising_lt HRI.out) (by have := HND.out; omega) HLT.out (by intro h; exact HGE.out (by have := HND.out; omega))
              have hRX : R = (⟨x.live, x.free.set d (insAt k a (x.free.getD d []))⟩, 0) := by refine HRR.out.trans ((if_neg (by simp)).trans ?_); unfold giveX; rw [hcnt]
              have HRX := Lib.hid hRX; clear hRX hcnt
              have HF7 := Lib.hid hf7; clear hf7
              have HL7 := Lib.hid hl7; clear hl7
              have HB7 := Lib.hid hB7; clear hB7
              clear h16 h06 hrs6 hw6' hO2 hq hO hB hBW6 hus r17 hmem
              generalize (w6.setCell ⟨b1, off1 + d, none⟩ (.slice A7 ((x.free.getD d []).length + 1) c7)) = U at *
              have t0 := (cell_of_row U w.heap.size 0 _ _ _ hw7').trans (show _ = some (Value.slice A3 n4 c3) from rfl)
              have t1 := (cell_of_row U w.heap.size 1 _ _ _ hw7').trans (show _ = some (Value.slice (some ⟨b1, off1, none⟩) n4 c4) from rfl)
              have r0 := (cell_of_row U (w.heap.size + 1 + 1) 0 _ _ _ hrs7).trans (show _ = some (Value.slice none 0 0) from rfl)
              have r1 := (cell_of_row U (w.heap.size + 1 + 1) 1 _ _ _ hrs7).trans (show _ = some (Value.slice none 0 0) from rfl)
              have r2 := frozen_of_row U (w.heap.size + 1 + 1) 0 _ _ hrs7
              have r3 := frozen_of_row U (w.heap.size + 1 + 1) 1 _ _ hrs7
              clear hw7' hrs7
              go_wp2
              refine bodyPost_ret (v := .tuple #[.agg #[.slice A3 n4 c3, .slice (some ⟨b1, off1, none⟩) n4 c4], .int .i64 0]) (by simp [results, Try.results125, go_sem, *]; done) rfl ?_
              rw [HRX.out]
              have hkk : Keeps (fun b => w1.heap.size ≤ b) U ((U.setCell ⟨w.heap.size + 1 + 1, 0, none⟩ (.slice A3 n4 c3)).setCell ⟨w.heap.size + 1 + 1, 1, none⟩ (.slice (some ⟨b1, off1, none⟩) n4 c4)) := (by repeat' (first | (with_reducible exact Keeps.refl _ _) | (with_reducible refine Keeps.alloc ?_ _) | (with_reducible refine Keeps.drew ?_) | (with_reducible refine Keeps.drewN ?_ _) | (with_reducible refine Keeps.setCell ?_ ?_ _) | (refine Keeps.call ?_ (by with_reducible assumption)) | (with_reducible refine Keeps.ext ?_ _) | (simp; done) | (simp; omega) | omega))
              exact ⟨_, _, _, _, _, _, rfl, (HL7.out.keep hkk).mono (fun b hb _ => by have : w1.heap.size ≤ b := hb; omega), (HF7.out.keep hkk).mono (fun b hb _ => by have : w1.heap.size ≤ b := hb; omega), (HB7.out.setCell (by simp; omega) _).setCell (by simp; omega) _⟩
      · clear hBWo
        have HGE : Hid (k < nd → a ≤ (x.free.getD d []).getD k 0) := Lib.hid (fun h => absurd h hlt)
        obtain rfl : k = nd := by omega
        have l0 : True := trivial
        go_wp2_with fail
        have hext := cell_ext wo
        refine region_ext (by kernel_rfl) (by kernel_rfl) ?_
        repeat (go_big_quiet_step (fail))
        refine wpQuiet_nil ?_
        rintro _ ⟨X, rfl⟩
        have hV := below_ext wo X
        have hB3 : Below w3.heap.size w3 (wo.ext X) := HBo.out.trans (hV.mono so)
        have sV : w3.heap.size ≤ (wo.ext X).heap.size := hB3.size
        clear hV HBo so l0 t1 hext
        generalize wo.ext X = V at *
        have hBWV : Below W.heap.size W V := HB3.out.trans (hB3.mono HB3.out.size)
        have hrV := HROW.out.all hBWV
        have h1V := H1.out.all hBWV
        have h0V := H0.out.all hBWV
        have m1 := (hBWV.cell (p := ⟨w.heap.size, 1, none⟩) (show w.heap.size < W.heap.size by omega)).trans p1
        have m2 := (hBWV.cell (p := ⟨w.heap.size + 1, 0, none⟩) (show w.heap.size + 1 < W.heap.size by omega)).trans q0
        have m3 := (hBWV.cell (p := ⟨w.heap.size + 1, 1, none⟩) (show w.heap.size + 1 < W.heap.size by omega)).trans q1
        have m4 := (hBWV.cell (p := ⟨b1, off1 + d, none⟩) hbl1).trans hc1
        have m5 := (hBWV.frozen (p := ⟨b1, off1 + d, none⟩) hbl1).trans hf1
        have zV : W.heap.size ≤ V.heap.size := hBWV.size
        have cells : ∀ us w6, WdRG V k (x.free.getD d []) a b1 (off1 + d) us w6 → 17 ∉ us.map Prod.fst → w6.cell? ⟨w.heap.size, 1, none⟩ = some (.slice (some ⟨b1, off1, none⟩) n4 c4) ∧ w6.cell? ⟨w.heap.size + 1, 0, none⟩ = some (.int .i64 (d : Int)) ∧ w6.cell? ⟨w.heap.size + 1, 1, none⟩ = some (.int .i64 a) ∧ w6.cell? ⟨b1, off1 + d, none⟩ = some (.slice Ad k cd) ∧ w6.frozen? ⟨b1, off1 + d, none⟩ = false := by
          intro us w6 hW h17
          have hB := hW.below h17
          exact ⟨(hB.cell (p := ⟨w.heap.size, 1, none⟩) (by show w.heap.size < V.heap.size; omega)).trans m1, (hB.cell (p := ⟨w.heap.size + 1, 0, none⟩) (by show w.heap.size + 1 < V.heap.size; omega)).trans m2, (hB.cell (p := ⟨w.heap.size + 1, 1, none⟩) (by show w.heap.size + 1 < V.heap.size; omega)).trans m3, (hB.cell (p := ⟨b1, off1 + d, none⟩) (by show b1 < V.heap.size; omega)).trans m4, (hB.frozen (p := ⟨b1, off1 + d, none⟩) (by show b1 < V.heap.size; omega)).trans m5⟩
        have CELLS := Lib.hid cells; clear cells
        have HRV := Lib.hid hrV; clear hrV
        have H1V := Lib.hid h1V; clear h1V
        have H0V := Lib.hid h0V; clear h0V
        have HBWV := Lib.hid hBWV; clear hBWV
        have htk : ((x.free.getD d []).take k).length = k := by rw [List.length_take]; have := HND.out; omega
        have htake : Sl true 3 intE V (fun b => w1.heap.size ≤ b) Ad k cd ((x.free.getD d []).take k) := by
          have h := HRV.out
          refine ⟨htk, by have := h.le; omega, h.cap, fun h0 => ?_⟩
          obtain ⟨b, off, e, hb, hl, ht, hc⟩ := h.2.2.2 (by omega)
          refine ⟨b, off, e, hb, hl, ht, fun j y hj => hc j y ?_⟩
          rw [List.getElem?_take] at hj
          split at hj
          · exact hj
          · cases hj
        have hcd : k ≤ cd := HRV.out.le
        have hcd2 : cd ≤ 9223372036854775807 := HRV.out.cap
        have hkcd : k ≤ cd := by omega
        have HTK := Lib.hid htake; clear htake
        clear m1 m2 m3 m4 m5 p1 q0 q1 hc1 hf1 htk
        go_wp2_with fail
        refine region_free (by kernel_rfl) (by kernel_rfl) 55 rfl [37, 38, 39, 40, 41, 42, 43, 44, 45, 46, 47, 48, 49, 50, 51, 52, 53] [7, 10, 11, 15, 17] [(44, 7), (47, 10), (48, 11), (52, 15)]
          [(37, [], fun _ => .pointer (some ⟨w.heap.size, 1, none⟩)), (38, [], fun _ => .slice (some ⟨b1, off1, none⟩) n4 c4), (39, [], fun _ => .pointer (some ⟨w.heap.size + 1, 0, none⟩)), (40, [], fun _ => .int .i64 (d : Int)), (41, [], fun _ => .slice Ad k cd), (42, [], fun _ => .int .i64 (k : Int)), (43, [], fun _ => .slice Ad k cd), (45, [], fun _ => .pointer (some ⟨w.heap.size + 1, 1, none⟩)), (46, [], fun _ => .int .i64 a),
            (49, [], fun _ => .slice Ad k cd), (50, [], fun _ => .int .i64 (k : Int)), (51, [], fun _ => .slice (if cd = k then Ad else Ad.map (·.add k)) (k - k) (cd - k)), (53, [], fun _ => .pointer (some ⟨b1, off1 + d, none⟩))]
          [[], [17], [], [17], [], [], [], [11], [], [17], [11], [15], [], [], [], [17], [], []] [[], [], [], [], [], [], [], [], [], [], [], [7, 10], [], [], [], [11], [], [15]]
          [[], [37], [], [39], [], [], [41, 42], [43], [], [45], [46], [44, 47], [], [], [49, 50], [48, 51], [38, 40], [53, 52]] (WdRG V k (x.free.getD d []) a b1 (off1 + d)) (by kernel_rfl) (.n0 (Below.refl _ _).drew)
          ⟨?_, ?_, ?_, ?_, ?_, ?_, ?_, ?_, ?_, ?_, ?_, ?_, ?_, ?_, ?_, ?_, ?_, ?_, trivial⟩ ?_
        · (refine OpH.rd rfl rfl (fun ρ us w6 ho ht hc hl hsrc hW => ?_); have e2 := (ho 2 rfl).trans (show _ = (.pointer (some ⟨w.heap.size, 0, none⟩) : Value) from rfl); clear ht ho; simp only [execOp, e2]; go_simp; try rfl)
        · (refine OpH.rd rfl rfl (fun ρ us w6 ho ht hc hl hsrc hW => ?_); have e37 := (ht 37 (by decide)).trans (show _ = (.pointer (some ⟨w.heap.size, 1, none⟩) : Value) from rfl); obtain ⟨y0, y1, y2, y3, y4⟩ := CELLS.out us w6 hW (hl 17 (by decide)); clear ht ho; simp only [execOp, e37]; go_simp; try rfl)
        · (refine OpH.rd rfl rfl (fun ρ us w6 ho ht hc hl hsrc hW => ?_); have e3 := (ho 3 rfl).trans (show _ = (.pointer (some ⟨w.heap.size + 1, 0, none⟩) : Value) from rfl); clear ht ho; simp only [execOp, e3]; go_simp; try rfl)
        · (refine OpH.rd rfl rfl (fun ρ us w6 ho ht hc hl hsrc hW => ?_); have e39 := (ht 39 (by decide)).trans (show _ = (.pointer (some ⟨w.heap.size + 1, 0, none⟩) : Value) from rfl); obtain ⟨y0, y1, y2, y3, y4⟩ := CELLS.out us w6 hW (hl 17 (by decide)); clear ht ho; simp only [execOp, e39]; go_simp; try rfl)
        · (refine OpH.rd rfl rfl (fun ρ us w6 ho ht hc hl hsrc hW => ?_); have e6 := (ho 6 rfl).trans (show _ = (.slice Ad k cd : Value) from rfl); clear ht ho; simp only [execOp, e6]; go_simp; try rfl)
        · (refine OpH.rd rfl rfl (fun ρ us w6 ho ht hc hl hsrc hW => ?_); have e7 := (ho 7 rfl).trans (show _ = (.int .i64 (k : Int) : Value) from rfl); clear ht ho; simp only [execOp, e7]; go_simp; try rfl)
        · (refine OpH.rd rfl rfl (fun ρ us w6 ho ht hc hl hsrc hW => ?_); have e41 := (ht 41 (by decide)).trans (show _ = (.slice Ad k cd : Value) from rfl); have e42 := (ht 42 (by decide)).trans (show _ = (.int .i64 (k : Int) : Value) from rfl); clear ht ho; simp only [execOp, Option.map_some, Option.map_none, e41, e42]; go_simp; (first | rfl | (rw [if_pos (by omega)]; rfl)))
        · refine OpH.wr rfl (fun A us w6 ho ht hni hlim hreq hW K hK => ?_)
          have e43 := (ht 43 (by decide)).trans (show _ = (.slice Ad k cd : Value) from rfl)
          have hl := hlim
          have h17 : 17 ∉ us.map Prod.fst := by
            intro h
            cases hW with
            | done _ _ _ h => exact absurd (by rcases h with rfl | rfl <;> simp) hni
            | n0 _ => simp at h
            | nb _ _ => simp at h
            | nc _ _ => simp at h
            | both _ _ _ h' => rcases h' with rfl | rfl <;> simp at h
            | a1 _ _ h' => rcases h' with rfl | rfl <;> simp at h
            | a2 _ _ h' => rcases h' with rfl | rfl <;> simp at h
          have hB6 := hW.below h17
          have hcp := CopyNumbers_c (w := w6) (HTK.out.all hB6) (by omega)
          unfold RetOwn at hcp
          rw [HTK.out.len] at hcp
          refine step_call rfl 65 #[.tmp 43] #[52] rfl Try.func65 (by kernel_rfl) (by kernel_rfl) #[.slice Ad k cd] (by simp [e43]) (hcp) ?_
          rintro e w7 ⟨A7, c7, rfl, hown7, hb7⟩
          have hB7 : Below V.heap.size V w7 := hB6.trans (hb7.mono hB6.size)
          have hO7 : Own 3 intE w7 V.heap.size (fun _ => False) A7 k c7 ((x.free.getD d []).take k) := own_base hown7.flatS hB6.size
          refine ⟨_, rfl, hK _ _ ?_⟩
          cases hW with
          | n0 _ => exact .nc hB7 hO7
          | nb _ hrow => exact .both hB7 ((hb7.block _ (Array.getElem?_eq_some_iff.1 hrow).1).trans hrow) hO7 (.inr rfl)
          | nc _ _ => exact absurd (by simp) hni
          | both _ _ _ h => exact absurd (by rcases h with rfl | rfl <;> simp) hni
          | a1 _ _ h => exact absurd (by rcases h with rfl | rfl <;> simp) hni
          | a2 _ _ h => exact absurd (by rcases h with rfl | rfl <;> simp) hni
          | done _ _ _ h => exact absurd (by rcases h with rfl | rfl <;> simp) hni
        · (refine OpH.rd rfl rfl (fun ρ us w6 ho ht hc hl hsrc hW => ?_); have e3 := (ho 3 rfl).trans (show _ = (.pointer (some ⟨w.heap.size + 1, 0, none⟩) : Value) from rfl); clear ht ho; simp only [execOp, e3]; go_simp; try rfl)
        · (refine OpH.rd rfl rfl (fun ρ us w6 ho ht hc hl hsrc hW => ?_); have e45 := (ht 45 (by decide)).trans (show _ = (.pointer (some ⟨w.heap.size + 1, 1, none⟩) : Value) from rfl); obtain ⟨y0, y1, y2, y3, y4⟩ := CELLS.out us w6 hW (hl 17 (by decide)); clear ht ho; simp only [execOp, e45]; go_simp; try rfl)
        · refine OpH.wr rfl (fun A us w6 ho ht hni hlim hreq hW K hK => ?_)
          have e46 := (ht 46 (by decide)).trans (show _ = (.int .i64 a : Value) from rfl)
          have key : ∀ g, g = w6.heap.size → WdRG V k (x.free.getD d []) a b1 (off1 + d) (us ++ [(10, .slice (some ⟨g, 0, none⟩) 1 1)]) (w6.alloc (.cells #[.int .i64 a] 3)) := by
            rintro g rfl
            cases hW with
            | n0 hB => exact .nb (hB.alloc hB.size _) (heap_alloc_new _ _)
            | nc hB hO => exact .both (hB.alloc hB.size _) (heap_alloc_new _ _) (hO.frame (Agree.alloc _ _ _) (by simp)) (.inl rfl)
            | nb _ _ => exact absurd (by simp) hni
            | both _ _ _ h => exact absurd (by rcases h with rfl | rfl <;> simp) hni
            | a1 _ _ h => exact absurd (by rcases h with rfl | rfl <;> simp) hni
            | a2 _ _ h => exact absurd (by rcases h with rfl | rfl <;> simp) hni
            | done _ _ _ h => exact absurd (by rcases h with rfl | rfl <;> simp) hni
          have KEY := Lib.hid key; clear key hW hni hlim hreq ho ht
          rw [if_pos (by simp [Region.wanted])]
          unfold Oper.wp
          generalize A.eval = ρ at *
          simp only [execOp, List.map_toArray, List.map_cons, List.map_nil, e46]
          go_simp
          exact hK _ _ (KEY.out _ rfl)
        · refine OpH.wr rfl (fun A us w6 ho ht hni hlim hreq hW K hK => ?_)
          have r7 := hreq 7 (by decide)
          have r10 := hreq 10 (by decide)
          cases hW with
          | n0 _ => exact absurd r7 (by simp)
          | nb _ _ => exact absurd r7 (by simp)
          | nc _ _ => exact absurd r10 (by simp)
          | a1 _ _ h => exact absurd (by rcases h with rfl | rfl <;> simp) hni
          | a2 _ _ h => exact absurd (by rcases h with rfl | rfl <;> simp) hni
          | done _ _ _ h => exact absurd (by rcases h with rfl | rfl <;> simp) hni
          | @both _ A7 c7 g _ hB hrow hO hus =>
            have e44 := (ht 44 (by decide)).trans (show _ = (.slice A7 k c7 : Value) from by rcases hus with rfl | rfl <;> rfl)
            have e47 := (ht 47 (by decide)).trans (show _ = (.slice (some ⟨g, 0, none⟩) 1 1 : Value) from by rcases hus with rfl | rfl <;> rfl)
            refine step_append1 rfl (.tmp 44) (.tmp 47) 52 rfl i0 (.int .i64 0) 8 Try.underlying52 hi0 hz0 hz1' hz2 rfl (by decide) e44 hO g 3 1 _ a e47 hrow (intE_R ha) (by omega) (by omega) hB.size ?_
            intro A9 c9 w9 hown9 hg9 _
            exact hK _ _ (.a1 (hB.grown hg9 hB.size (fun r hr => (hO.lt r hr).1)) hown9 (by rcases hus with rfl | rfl; exact .inl rfl; exact .inr rfl))
        · (refine OpH.rd rfl rfl (fun ρ us w6 ho ht hc hl hsrc hW => ?_); have e6 := (ho 6 rfl).trans (show _ = (.slice Ad k cd : Value) from rfl); clear ht ho; simp only [execOp, e6]; go_simp; try rfl)
        · (refine OpH.rd rfl rfl (fun ρ us w6 ho ht hc hl hsrc hW => ?_); have e7 := (ho 7 rfl).trans (show _ = (.int .i64 (k : Int) : Value) from rfl); clear ht ho; simp only [execOp, e7]; go_simp; try rfl)
        · (refine OpH.rd rfl rfl (fun ρ us w6 ho ht hc hl hsrc hW => ?_); have e49 := (ht 49 (by decide)).trans (show _ = (.slice Ad k cd : Value) from rfl); have e50 := (ht 50 (by decide)).trans (show _ = (.int .i64 (k : Int) : Value) from rfl); clear ht ho; simp only [execOp, Option.map_some, Option.map_none, e49, e50]; go_simp; (first | rfl | (simp; done) | skip))
        · refine OpH.wr rfl (fun A us w6 ho ht hni hlim hreq hW K hK => ?_)
          have r11 := hreq 11 (by decide)
          cases hW with
          | n0 _ => exact absurd r11 (by simp)
          | nb _ _ => exact absurd r11 (by simp)
          | nc _ _ => exact absurd r11 (by simp)
          | both _ _ _ h => exact absurd r11 (by rcases h with rfl | rfl <;> simp)
          | a2 _ _ h => exact absurd (by rcases h with rfl | rfl <;> simp) hni
          | done _ _ _ h => exact absurd (by rcases h with rfl | rfl <;> simp) hni
          | @a1 _ A7 c7 _ u u' hB hO hus =>
            have e48 := (ht 48 (by decide)).trans (show _ = (.slice A7 (k + 1) c7 : Value) from by rcases hus with rfl | rfl <;> rfl)
            have e51 := (ht 51 (by decide)).trans (show _ = (.slice (if cd = k then Ad else Ad.map (·.add k)) (k - k) (cd - k) : Value) from rfl)
            rw [Nat.sub_self] at e51
            have hkl : (x.free.getD d []).length = k := HND.out
            have hO2 : Own 3 intE w6 V.heap.size (fun _ => False) A7 ((x.free.getD d []).length + 1) c7 (insAt k a (x.free.getD d [])) := by
              rw [hkl]
              have e : insAt k a (x.free.getD d []) = (x.free.getD d []).take k ++ [a] := by unfold insAt; rw [List.drop_eq_nil_of_le (by omega)]
              rw [e]; exact hO
            refine step_append_nothing rfl (.tmp 48) (.tmp 51) 52 3 rfl i0 Try.underlying52 hi0 e48 hO.le.1 e51 ?_
            exact hK _ _ (.a2 (u := u) (u' := u') (u2 := .slice A7 (k + 1) c7) hB hO2 (by rw [hkl]; rcases hus with rfl | rfl; exact .inl rfl; exact .inr rfl))
        · (refine OpH.rd rfl rfl (fun ρ us w6 ho ht hc hl hsrc hW => ?_); have e38 := (ht 38 (by decide)).trans (show _ = (.slice (some ⟨b1, off1, none⟩) n4 c4 : Value) from rfl); have e40 := (ht 40 (by decide)).trans (show _ = (.int .i64 (d : Int) : Value) from rfl); clear ht ho; simp only [execOp, e38, e40]; go_simp; try rfl)
        · refine OpH.wr rfl (fun A us w6 ho ht hni hlim hreq hW K hK => ?_)
          have r15 := hreq 15 (by decide)
          cases hW with
          | n0 _ => exact absurd r15 (by simp)
          | nb _ _ => exact absurd r15 (by simp)
          | nc _ _ => exact absurd r15 (by simp)
          | both _ _ _ h => exact absurd r15 (by rcases h with rfl | rfl <;> simp)
          | a1 _ _ h => exact absurd r15 (by rcases h with rfl | rfl <;> simp)
          | done _ _ _ h => exact absurd (by rcases h with rfl | rfl <;> simp) hni
          | @a2 _ A7 c7 _ u u' u2 hB hO hus =>
            have e53 := (ht 53 (by decide)).trans (show _ = (.pointer (some ⟨b1, off1 + d, none⟩) : Value) from rfl)
            have e52 := (ht 52 (by decide)).trans (show _ = (.slice A7 ((x.free.getD d []).length + 1) c7 : Value) from by rcases hus with rfl | rfl <;> rfl)
            obtain ⟨y0, y1, y2, y3, y4⟩ := CELLS.out us w6 (.a2 hB hO hus) (by rcases hus with rfl | rfl <;> simp)
            have hd : WdRG V k (x.free.getD d []) a b1 (off1 + d) (us ++ [(17, undef)]) (w6.setCell ⟨b1, off1 + d, none⟩ (.slice A7 ((x.free.getD d []).length + 1) c7)) := .done hB hO rfl (by rcases hus with rfl | rfl; exact .inl rfl; exact .inr rfl)
            have HD := Lib.hid hd
            clear hd hO hB hus ht ho hni hlim hreq r15
            rw [if_pos (by simp [Region.wanted])]
            unfold Oper.wp
            generalize A.eval = ρ at *
            simp only [execOp, e53, e52]
            go_simp
            exact hK undef _ HD.out
        · intro us w7 hmem hW
          have r17 := hmem 17 (by decide)
          cases hW with
          | n0 _ => exact absurd r17 (by simp)
          | nb _ _ => exact absurd r17 (by simp)
          | nc _ _ => exact absurd r17 (by simp)
          | both _ _ _ h => exact absurd r17 (by rcases h with rfl | rfl <;> simp)
          | a1 _ _ h => exact absurd r17 (by rcases h with rfl | rfl <;> simp)
          | a2 _ _ h => exact absurd r17 (by rcases h with rfl | rfl <;> simp)
          | @done _ w6 A7 c7 _ u u' u2 u3 u4 hB hO hw7 hus =>
            subst hw7
            simp only [putAll, List.map_cons, List.map_nil, List.foldl_cons, List.foldl_nil, Act.put, List.setIfInBounds_toArray, List.set_cons_succ, List.set_cons_zero]
            generalize slotAt _ _ us = sv
            have hBW6 : Below W.heap.size W w6 := HBWV.out.trans (hB.mono zV)
            have h16 := H1V.out.all hB
            have h06 := H0V.out.all hB
            have hrs6 := (hBW6.block (w.heap.size + 1 + 1) (by omega)).trans HRS.out
            have hw6' := (hBW6.block w.heap.size (by omega)).trans HW.out
            have hO2 : Sl true 3 intE w6 (fun b => w1.heap.size ≤ b) A7 ((x.free.getD d []).length + 1) c7 (insAt k a (x.free.getD d [])) := (hO.sl (tg := true)).mono (fun b hb _ => by rcases hb with hb | hb; exact hb.elim; omega)
            have hf7 := h16.set1 rfl (Avoids.slE (intE_avoids _) (by decide)) hdn (v := .slice A7 ((x.free.getD d []).length + 1) c7) (y := insAt k a (x.free.getD d [])) ⟨_, _, _, rfl, hO2⟩
            obtain ⟨q, hq⟩ := Sl.tagAt h16 (by omega)
            have hl7 := ((Turns.refl (fun b => w1.heap.size ≤ b) _ w6).setCell (p := ⟨b1, off1 + d, none⟩) hS1 hq (.slice A7 ((x.free.getD d []).length + 1) c7)).sl (boolE_avoids _) (by decide) h06
            have hS1' : w1.heap.size ≤ b1 := hS1
            have hB7 : Below w.heap.size w (w6.setCell ⟨b1, off1 + d, none⟩ (.slice A7 ((x.free.getD d []).length + 1) c7)) := (HBW.out.trans (hBW6.mono (by omega))).setCell (show w.heap.size ≤ b1 by omega) _
            have hrs7 : (w6.setCell ⟨b1, off1 + d, none⟩ (.slice A7 ((x.free.getD d []).length + 1) c7)).heap[w.heap.size + 1 + 1]? = some (.cells #[.slice none 0 0, .slice none 0 0] 62 (0, 0)) := by rw [Below.heap_setCell _ _ _ _ (by simp; omega)]; exact hrs6
            have hw7' : (w6.setCell ⟨b1, off1 + d, none⟩ (.slice A7 ((x.free.getD d []).length + 1) c7)).heap[w.heap.size]? = some (.cells #[.slice A3 n4 c3, .slice (some ⟨b1, off1, none⟩) n4 c4] 62 (0, 0)) := by rw [Below.heap_setCell _ _ _ _ (by simp; omega)]; exact hw6'
            have hcnt : (x.free.getD d []).countP (· < a) = k := countP_lt_at (rising_lt HRI.out) (by have := HND.out; omega) HLT.out (by intro h; exact HGE.out (by have := HND.out; omega))
            have hRX : R = (⟨x.live, x.free.set d (insAt k a (x.free.getD d []))⟩, 0) := by refine HRR.out.trans ((if_neg (by simp)).trans ?_); unfold giveX; rw [hcnt]
            have HRX := Lib.hid hRX; clear hRX hcnt
            have HF7 := Lib.hid hf7; clear hf7
            have HL7 := Lib.hid hl7; clear hl7
            have HB7 := Lib.hid hB7; clear hB7
            clear h16 h06 hrs6 hw6' hO2 hq hO hB hBW6 hus r17 hmem
            generalize (w6.setCell ⟨b1, off1 + d, none⟩ (.slice A7 ((x.free.getD d []).length + 1) c7)) = U at *
            have t0 := (cell_of_row U w.heap.size 0 _ _ _ hw7').trans (show _ = some (Value.slice A3 n4 c3) from rfl)
            have t1 := (cell_of_row U w.heap.size 1 _ _ _ hw7').trans (show _ = some (Value.slice (some ⟨b1, off1, none⟩) n4 c4) from rfl)
            have r0 := (cell_of_row U (w.heap.size + 1 + 1) 0 _ _ _ hrs7).trans (show _ = some (Value.slice none 0 0) from rfl)
            have r1 := (cell_of_row U (w.heap.size + 1 + 1) 1 _ _ _ hrs7).trans (show _ = some (Value.slice none 0 0) from rfl)
            have r2 := frozen_of_row U (w.heap.size + 1 + 1) 0 _ _ hrs7
            have r3 := frozen_of_row U (w.heap.size + 1 + 1) 1 _ _ hrs7
            clear hw7' hrs7
            go_wp2
            refine bodyPost_ret (v := .tuple #[.agg #[.slice A3 n4 c3, .slice (some ⟨b1, off1, none⟩) n4 c4], .int .i64 0]) (by simp [results, Try.results125, go_sem, *]; done) rfl ?_
            rw [HRX.out]
            have hkk : Keeps (fun b => w1.heap.size ≤ b) U ((U.setCell ⟨w.heap.size + 1 + 1, 0, none⟩ (.slice A3 n4 c3)).setCell ⟨w.heap.size + 1 + 1, 1, none⟩ (.slice (some ⟨b1, off1, none⟩) n4 c4)) := (by repeat' (first | (with_reducible exact Keeps.refl _ _) | (with_reducible refine Keeps.alloc ?_ _) | (with_reducible refine Keeps.drew ?_) | (with_reducible refine Keeps.drewN ?_ _) | (with_reducible refine Keeps.setCell ?_ ?_ _) | (refine Keeps.call ?_ (by with_reducible assumption)) | (with_reducible refine Keeps.ext ?_ _) | (simp; done) | (simp; omega) | omega))
            exact ⟨_, _, _, _, _, _, rfl, (HL7.out.keep hkk).mono (fun b hb _ => by have : w1.heap.size ≤ b := hb; omega), (HF7.out.keep hkk).mono (fun b hb _ => by have : w1.heap.size ≤ b := hb; omega), (HB7.out.setCell (by simp; omega) _).setCell (by simp; omega) _⟩
end Go.Proofs.Ytfccghfcilccfaa
