/- book.set: something is put in its place in a row of one's own. Printed by gen_y4.py. -/
import Derived.Test.YtipecejghioicaaY2r
import Derived.Deep.CutBlock
import Derived.Deep.Cut
namespace Go.Silo
open Go Go.RowKit
/-- Only this row is written to; what is new lies behind. -/
structure Chg (r : Option Nat) (w w' : World) : Prop where
  below : ∀ B, B ≤ w.heap.size → (∀ k, r = some k → B ≤ k) → Below B w w'
  agree : Agree (fun b => some b ≠ r) w w'
  size : w.heap.size ≤ w'.heap.size
theorem Chg.of_below {r : Option Nat} {w w' : World} (h : Below w.heap.size w w') : Chg r w w' := ⟨fun _ hB _ => h.mono hB, .all h, h.size⟩
theorem Chg.of_grown {r : Option Nat} {w w' : World} (h : w.grownBy w' r) : Chg r w w' := ⟨fun B hB hr => (Below.refl B w).grown h hB hr, Agree.grown h (fun _ hb => hb), h.size⟩
theorem Chg.trans {r : Option Nat} {a b c : World} (h : Chg r a b) (k : Chg r b c) : Chg r a c :=
  ⟨fun B hB hr => (h.below B hB hr).trans (k.below B (Nat.le_trans hB h.size) hr), h.agree.trans h.size k.agree, Nat.le_trans h.size k.size⟩
/-- Where it stands, or put in. -/
def setL {α : Type} (i : Nat) (is : Bool) (x : α) (l : List α) : List α := if is then l.set i x else insL i x l
theorem setL_len {α : Type} {i : Nat} {is : Bool} {x : α} {l : List α} (h : i ≤ l.length) : (setL i is x l).length ≤ l.length + 1 := by
  unfold setL; split
  · simp
  · rw [insL_len h]; exact Nat.le_refl _
/-- What 'set' leaves. -/
def SetP {α : Type} (T : TypeId) (E : Enc α) (w : World) (base : Nat) (S : Nat → Prop) (A : Option Addr) (l : List α) (i : Nat) (is : Bool) (x : α) (e : Ending) (w' : World) : Prop :=
  ∃ A' n' c', e = .returned (.slice A' n' c') ∧ Own T E w' base S A' n' c' (setL i is x l) ∧ Chg (ablk A) w w' ∧ (ablk A' = ablk A ∨ ∃ g, ablk A' = some g ∧ w.heap.size ≤ g)
end Go.Silo
namespace Go.Proofs.Ytipecejghioicaa
open Go.RowKit Go.Silo

set_option maxRecDepth 100000 in
set_option maxHeartbeats 4000000 in
theorem set_Stripe {tg : Bool} {w : World} {base : Nat} {S : Nat → Prop} {A : Option Addr} {n c i : Nat} {is : Bool} {l : List Stripe} {x : Stripe} {a b d : Int} {A3 : Option Addr} {n3 c3 : Nat} (h : Own 69 (stripeE tg) w base S A n c l) (hi : i ≤ n) (his : is = true → i < n) (hn : n ≤ 999999) (hbase : base ≤ w.heap.size)
    (hx : (stripeE tg).R w (fun b => S b ∧ some b ≠ ablk A) [.int .i64 a, .int .i64 b, .int .i64 d, .slice A3 n3 c3] x) :
    Calls Try.prog 38 #[.slice A n c, .int .i64 (i : Int), .bool is, .agg #[.int .i64 a, .int .i64 b, .int .i64 d, .slice A3 n3 c3]] w (SetP 69 (stripeE tg) w base S A l i is x) := by
  have hal : Below w.heap.size w (w.alloc (.cells #[.int .i64 a, .int .i64 b, .int .i64 d, .slice A3 n3 c3] 69)) := (Below.refl _ _).alloc (Nat.le_refl _) _
  have hrow := heap_alloc_new w (.cells #[.int .i64 a, .int .i64 b, .int .i64 d, .slice A3 n3 c3] 69)
  have hlt : w.heap.size < (w.alloc (.cells #[.int .i64 a, .int .i64 b, .int .i64 d, .slice A3 n3 c3] 69)).heap.size := by simp
  have H1 := Lib.hid (h.all hal)
  have HX1 := Lib.hid ((stripeE tg).frame (S := fun b => S b ∧ some b ≠ ablk A) (w' := w.alloc (.cells #[.int .i64 a, .int .i64 b, .int .i64 d, .slice A3 n3 c3] 69)) (.all hal) hal.size hx)
  have HLT := Lib.hid h.lt
  have HL := Lib.hid h.len
  clear hx
  cases is with
  | true =>
    have hin := his rfl
    obtain ⟨g, eA, _, _⟩ := h.form (by omega)
    subst eA
    clear h his
    go_enter Try.func38, Try.ntmps38
    go_upto_region 2 with (fail)
    generalize (w.alloc (.cells #[.int .i64 a, .int .i64 b, .int .i64 d, .slice A3 n3 c3] 69)) = w1 at *
    have HAL := Lib.hid hal; clear hal
    obtain ⟨g', eg, _, hgl, hown, hgr⟩ := H1.out.set_at hin HX1.out
    injection eg with eg; injection eg with eg; subst eg
    have HOWN := Lib.hid hown; clear hown
    have HGR := Lib.hid hgr; clear hgr
    obtain ⟨bs, os, A4, n4, c4, eB, _, hbl, _, _, _, _, z0, z1, z2, z3, f0, f1, f2, f3⟩ := (H1.out.sl (tg := true)).stripe_at hin
    injection eB with eB; injection eB with eB1 eB2; subst eB1; subst eB2
    simp only [Nat.zero_add] at *
    have bx0 := (cell_of_row _ _ 0 _ _ _ hrow).trans (show _ = some (.int .i64 a : Value) from rfl)
    have bx1 := (cell_of_row _ _ 1 _ _ _ hrow).trans (show _ = some (.int .i64 b : Value) from rfl)
    have bx2 := (cell_of_row _ _ 2 _ _ _ hrow).trans (show _ = some (.int .i64 d : Value) from rfl)
    have bx3 := (cell_of_row _ _ 3 _ _ _ hrow).trans (show _ = some (.slice A3 n3 c3 : Value) from rfl)
    clear hrow
    go_wp2
    go_ret
    exact ⟨some ⟨g, 0, none⟩, n, c, rfl, HOWN.out, (Chg.of_below HAL.out).trans (Chg.of_grown HGR.out), .inl rfl⟩
  | false =>
    clear his h
    go_enter Try.func38, Try.ntmps38
    go_upto_region 4 with (fail)
    generalize (w.alloc (.cells #[.int .i64 a, .int .i64 b, .int .i64 d, .slice A3 n3 c3] 69)) = w1 at *
    have HAL := Lib.hid hal; clear hal
    have bx0 := (cell_of_row _ _ 0 _ _ _ hrow).trans (show _ = some (.int .i64 a : Value) from rfl)
    have bx1 := (cell_of_row _ _ 1 _ _ _ hrow).trans (show _ = some (.int .i64 b : Value) from rfl)
    have bx2 := (cell_of_row _ _ 2 _ _ _ hrow).trans (show _ = some (.int .i64 d : Value) from rfl)
    have bx3 := (cell_of_row _ _ 3 _ _ _ hrow).trans (show _ = some (.slice A3 n3 c3 : Value) from rfl)
    clear hrow
    have hal2 : Below w1.heap.size w1 (w1.alloc (.cells #[.int .i64 a, .int .i64 b, .int .i64 d, .slice A3 n3 c3] 69)) := (Below.refl _ _).alloc (Nat.le_refl _) _
    have HAL2 := Lib.hid hal2
    have HINS := Lib.hid (Insert_Stripe (vb := w1.heap.size) (x := x) (i := i) (H1.out.all hal2) hi (by omega) (Nat.le_trans hbase (Nat.le_trans HAL.out.size hal2.size)) (heap_alloc_new w1 (.cells #[.int .i64 a, .int .i64 b, .int .i64 d, .slice A3 n3 c3] 69)) ((stripeE tg).frame (S := fun b => S b ∧ some b ≠ ablk A) (w' := w1.alloc (.cells #[.int .i64 a, .int .i64 b, .int .i64 d, .slice A3 n3 c3] 69)) (.all hal2) hal2.size HX1.out) (fun e => by
      have h1 := (HLT.out _ e.symm).2
      have h2 := HAL.out.size
      omega))
    clear hal2
    go_wp2_with fail
    refine HINS.out.mono ?_
    rintro e w2 ⟨A', c', rfl, hown, hgr, hat⟩
    have HO := Lib.hid hown
    have HG := Lib.hid hgr
    have HA := Lib.hid hat
    have HSZ := Lib.hid HAL2.out.size
    clear hown hgr hat
    go_wp2
    go_ret
    exact ⟨A', _, c', rfl, HO.out, (Chg.of_below HAL.out).trans ((Chg.of_below HAL2.out).trans (Chg.of_grown HG.out)), HA.out.elim .inl (fun h => .inr ⟨_, h, Nat.le_trans HAL.out.size HAL2.out.size⟩)⟩

set_option maxRecDepth 100000 in
set_option maxHeartbeats 4000000 in
theorem set_Entry {tg : Bool} {w : World} {base : Nat} {S : Nat → Prop} {A : Option Addr} {n c i : Nat} {is : Bool} {l : List Entry} {x : Entry} {a : ByteArray} {b : Int} {d : Bool} {A3 : Option Addr} {n3 c3 : Nat} (h : Own 71 (entryE tg) w base S A n c l) (hi : i ≤ n) (his : is = true → i < n) (hn : n ≤ 999999) (hbase : base ≤ w.heap.size)
    (hx : (entryE tg).R w (fun b => S b ∧ some b ≠ ablk A) [.string a, .int .i64 b, .bool d, .slice A3 n3 c3] x) :
    Calls Try.prog 42 #[.slice A n c, .int .i64 (i : Int), .bool is, .agg #[.string a, .int .i64 b, .bool d, .slice A3 n3 c3]] w (SetP 71 (entryE tg) w base S A l i is x) := by
  have hal : Below w.heap.size w (w.alloc (.cells #[.string a, .int .i64 b, .bool d, .slice A3 n3 c3] 71)) := (Below.refl _ _).alloc (Nat.le_refl _) _
  have hrow := heap_alloc_new w (.cells #[.string a, .int .i64 b, .bool d, .slice A3 n3 c3] 71)
  have hlt : w.heap.size < (w.alloc (.cells #[.string a, .int .i64 b, .bool d, .slice A3 n3 c3] 71)).heap.size := by simp
  have H1 := Lib.hid (h.all hal)
  have HX1 := Lib.hid ((entryE tg).frame (S := fun b => S b ∧ some b ≠ ablk A) (w' := w.alloc (.cells #[.string a, .int .i64 b, .bool d, .slice A3 n3 c3] 71)) (.all hal) hal.size hx)
  have HLT := Lib.hid h.lt
  have HL := Lib.hid h.len
  clear hx
  cases is with
  | true =>
    have hin := his rfl
    obtain ⟨g, eA, _, _⟩ := h.form (by omega)
    subst eA
    clear h his
    go_enter Try.func42, Try.ntmps42
    go_upto_region 2 with (fail)
    generalize (w.alloc (.cells #[.string a, .int .i64 b, .bool d, .slice A3 n3 c3] 71)) = w1 at *
    have HAL := Lib.hid hal; clear hal
    obtain ⟨g', eg, _, hgl, hown, hgr⟩ := H1.out.set_at hin HX1.out
    injection eg with eg; injection eg with eg; subst eg
    have HOWN := Lib.hid hown; clear hown
    have HGR := Lib.hid hgr; clear hgr
    obtain ⟨bs, os, A4, n4, c4, eB, _, hbl, _, _, _, z0, z1, z2, z3, f0, f1, f2, f3⟩ := (H1.out.sl (tg := true)).entry_at hin
    injection eB with eB; injection eB with eB1 eB2; subst eB1; subst eB2
    simp only [Nat.zero_add] at *
    have bx0 := (cell_of_row _ _ 0 _ _ _ hrow).trans (show _ = some (.string a : Value) from rfl)
    have bx1 := (cell_of_row _ _ 1 _ _ _ hrow).trans (show _ = some (.int .i64 b : Value) from rfl)
    have bx2 := (cell_of_row _ _ 2 _ _ _ hrow).trans (show _ = some (.bool d : Value) from rfl)
    have bx3 := (cell_of_row _ _ 3 _ _ _ hrow).trans (show _ = some (.slice A3 n3 c3 : Value) from rfl)
    clear hrow
    go_wp2
    go_ret
    exact ⟨some ⟨g, 0, none⟩, n, c, rfl, HOWN.out, (Chg.of_below HAL.out).trans (Chg.of_grown HGR.out), .inl rfl⟩
  | false =>
    clear his h
    go_enter Try.func42, Try.ntmps42
    go_upto_region 4 with (fail)
    generalize (w.alloc (.cells #[.string a, .int .i64 b, .bool d, .slice A3 n3 c3] 71)) = w1 at *
    have HAL := Lib.hid hal; clear hal
    have bx0 := (cell_of_row _ _ 0 _ _ _ hrow).trans (show _ = some (.string a : Value) from rfl)
    have bx1 := (cell_of_row _ _ 1 _ _ _ hrow).trans (show _ = some (.int .i64 b : Value) from rfl)
    have bx2 := (cell_of_row _ _ 2 _ _ _ hrow).trans (show _ = some (.bool d : Value) from rfl)
    have bx3 := (cell_of_row _ _ 3 _ _ _ hrow).trans (show _ = some (.slice A3 n3 c3 : Value) from rfl)
    clear hrow
    have hal2 : Below w1.heap.size w1 (w1.alloc (.cells #[.string a, .int .i64 b, .bool d, .slice A3 n3 c3] 71)) := (Below.refl _ _).alloc (Nat.le_refl _) _
    have HAL2 := Lib.hid hal2
    have HINS := Lib.hid (Insert_Entry (vb := w1.heap.size) (x := x) (i := i) (H1.out.all hal2) hi (by omega) (Nat.le_trans hbase (Nat.le_trans HAL.out.size hal2.size)) (heap_alloc_new w1 (.cells #[.string a, .int .i64 b, .bool d, .slice A3 n3 c3] 71)) ((entryE tg).frame (S := fun b => S b ∧ some b ≠ ablk A) (w' := w1.alloc (.cells #[.string a, .int .i64 b, .bool d, .slice A3 n3 c3] 71)) (.all hal2) hal2.size HX1.out) (fun e => by
      have h1 := (HLT.out _ e.symm).2
      have h2 := HAL.out.size
      omega))
    clear hal2
    go_wp2_with fail
    refine HINS.out.mono ?_
    rintro e w2 ⟨A', c', rfl, hown, hgr, hat⟩
    have HO := Lib.hid hown
    have HG := Lib.hid hgr
    have HA := Lib.hid hat
    have HSZ := Lib.hid HAL2.out.size
    clear hown hgr hat
    go_wp2
    go_ret
    exact ⟨A', _, c', rfl, HO.out, (Chg.of_below HAL.out).trans ((Chg.of_below HAL2.out).trans (Chg.of_grown HG.out)), HA.out.elim .inl (fun h => .inr ⟨_, h, Nat.le_trans HAL.out.size HAL2.out.size⟩)⟩

set_option maxRecDepth 100000 in
set_option maxHeartbeats 4000000 in
theorem set_Tag {w : World} {base : Nat} {S : Nat → Prop} {A : Option Addr} {n c i : Nat} {is : Bool} {l : List Tag} {x : Tag} {a b : ByteArray} (h : Own 73 tagE w base S A n c l) (hi : i ≤ n) (his : is = true → i < n) (hn : n ≤ 999999) (hbase : base ≤ w.heap.size)
    (hx : tagE.R w (fun b => S b ∧ some b ≠ ablk A) [.string a, .string b] x) :
    Calls Try.prog 46 #[.slice A n c, .int .i64 (i : Int), .bool is, .agg #[.string a, .string b]] w (SetP 73 tagE w base S A l i is x) := by
  have hal : Below w.heap.size w (w.alloc (.cells #[.string a, .string b] 73)) := (Below.refl _ _).alloc (Nat.le_refl _) _
  have hrow := heap_alloc_new w (.cells #[.string a, .string b] 73)
  have hlt : w.heap.size < (w.alloc (.cells #[.string a, .string b] 73)).heap.size := by simp
  have H1 := Lib.hid (h.all hal)
  have HX1 := Lib.hid (tagE.frame (S := fun b => S b ∧ some b ≠ ablk A) (w' := w.alloc (.cells #[.string a, .string b] 73)) (.all hal) hal.size hx)
  have HLT := Lib.hid h.lt
  have HL := Lib.hid h.len
  clear hx
  cases is with
  | true =>
    have hin := his rfl
    obtain ⟨g, eA, _, _⟩ := h.form (by omega)
    subst eA
    clear h his
    go_enter Try.func46, Try.ntmps46
    go_upto_region 2 with (fail)
    generalize (w.alloc (.cells #[.string a, .string b] 73)) = w1 at *
    have HAL := Lib.hid hal; clear hal
    obtain ⟨g', eg, _, hgl, hown, hgr⟩ := H1.out.set_at hin HX1.out
    injection eg with eg; injection eg with eg; subst eg
    have HOWN := Lib.hid hown; clear hown
    have HGR := Lib.hid hgr; clear hgr
    obtain ⟨bs, os, eB, _, hbl, _, _, z0, z1, f0, f1⟩ := (H1.out.sl (tg := true)).tag_at hin
    injection eB with eB; injection eB with eB1 eB2; subst eB1; subst eB2
    simp only [Nat.zero_add] at *
    have bx0 := (cell_of_row _ _ 0 _ _ _ hrow).trans (show _ = some (.string a : Value) from rfl)
    have bx1 := (cell_of_row _ _ 1 _ _ _ hrow).trans (show _ = some (.string b : Value) from rfl)
    clear hrow
    go_wp2
    go_ret
    exact ⟨some ⟨g, 0, none⟩, n, c, rfl, HOWN.out, (Chg.of_below HAL.out).trans (Chg.of_grown HGR.out), .inl rfl⟩
  | false =>
    clear his h
    go_enter Try.func46, Try.ntmps46
    go_upto_region 4 with (fail)
    generalize (w.alloc (.cells #[.string a, .string b] 73)) = w1 at *
    have HAL := Lib.hid hal; clear hal
    have bx0 := (cell_of_row _ _ 0 _ _ _ hrow).trans (show _ = some (.string a : Value) from rfl)
    have bx1 := (cell_of_row _ _ 1 _ _ _ hrow).trans (show _ = some (.string b : Value) from rfl)
    clear hrow
    have hal2 : Below w1.heap.size w1 (w1.alloc (.cells #[.string a, .string b] 73)) := (Below.refl _ _).alloc (Nat.le_refl _) _
    have HAL2 := Lib.hid hal2
    have HINS := Lib.hid (Insert_Tag (vb := w1.heap.size) (x := x) (i := i) (H1.out.all hal2) hi (by omega) (Nat.le_trans hbase (Nat.le_trans HAL.out.size hal2.size)) (heap_alloc_new w1 (.cells #[.string a, .string b] 73)) (tagE.frame (S := fun b => S b ∧ some b ≠ ablk A) (w' := w1.alloc (.cells #[.string a, .string b] 73)) (.all hal2) hal2.size HX1.out) (fun e => by
      have h1 := (HLT.out _ e.symm).2
      have h2 := HAL.out.size
      omega))
    clear hal2
    go_wp2_with fail
    refine HINS.out.mono ?_
    rintro e w2 ⟨A', c', rfl, hown, hgr, hat⟩
    have HO := Lib.hid hown
    have HG := Lib.hid hgr
    have HA := Lib.hid hat
    have HSZ := Lib.hid HAL2.out.size
    clear hown hgr hat
    go_wp2
    go_ret
    exact ⟨A', _, c', rfl, HO.out, (Chg.of_below HAL.out).trans ((Chg.of_below HAL2.out).trans (Chg.of_grown HG.out)), HA.out.elim .inl (fun h => .inr ⟨_, h, Nat.le_trans HAL.out.size HAL2.out.size⟩)⟩
end Go.Proofs.Ytipecejghioicaa
