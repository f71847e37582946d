/- book.Do, for the records that put something in. Printed by gen_y7.py. -/
import Derived.Test.YtipecejghioicaaY6r
import Derived.Test.YtipecejghioicaaS3r
import Derived.Deep.CutBlock
import Derived.Deep.Cut
namespace Go.Silo
open Go Go.RowKit
theorem takeWhile_len {α : Type} {p : α → Bool} {d : α} : ∀ {l : List α} {i : Nat}, i ≤ l.length → (∀ j, j < i → p (l.getD j d) = true) → (i < l.length → p (l.getD i d) = false) → (l.takeWhile p).length = i
  | [], i, h, _, _ => by simp at h; simp [h]
  | a :: l, 0, _, _, h2 => by
    have := h2 (by simp)
    simp at this
    simp [this]
  | a :: l, i + 1, h, h1, h2 => by
    have ha := h1 0 (by omega)
    simp at ha
    rw [List.takeWhile_cons, if_pos ha, List.length_cons]
    congr 1
    refine takeWhile_len (d := d) (by simp at h; omega) (fun j hj => ?_) (fun hl => ?_)
    · have := h1 (j + 1) (by omega); simpa using this
    · have := h2 (by simp; omega); simpa using this
end Go.Silo
namespace Go.Proofs.Ytipecejghioicaa
open Go.RowKit Go.Silo
/-- How many stripes lie ahead of an ID; whether there is one. -/
def posS (l : List Stripe) (x : Int) : Nat := (l.takeWhile (fun y => decide (y.id < x))).length
def isS (l : List Stripe) (x : Int) : Bool := decide (posS l x < l.length ∧ (l.getD (posS l x) default).id = x)
def putS (l : List Stripe) (x : Stripe) : List Stripe := setL (posS l x.id) (isS l x.id) x l
/-- The same by texts. -/
def posB {α : Type} (key : α → ByteArray) (l : List α) (x : ByteArray) : Nat := (l.takeWhile (fun y => strLt (key y) x)).length
def isB {α : Type} [Inhabited α] (key : α → ByteArray) (l : List α) (x : ByteArray) : Bool := decide (posB key l x < l.length ∧ key (l.getD (posB key l x) default) = x)
def putB {α : Type} [Inhabited α] (key : α → ByteArray) (l : List α) (x : α) : List α := setL (posB key l (key x)) (isB key l (key x)) x l
theorem posS_of {l : List Stripe} {x : Int} {k : Nat} {is : Bool} (hk : k ≤ l.length) (e : is = decide (k < l.length ∧ (l.getD k default).id = x)) (h1 : ∀ j, j < k → (l.getD j default).id < x) (h2 : ∀ j, k ≤ j → j < l.length → x ≤ (l.getD j default).id) : k = posS l x ∧ is = isS l x := by
  have hp : posS l x = k := takeWhile_len (d := default) hk (fun j hj => by simpa using h1 j hj) (fun hl => decide_eq_false (Int.not_lt.2 (h2 k (Nat.le_refl _) hl)))
  refine ⟨hp.symm, ?_⟩
  unfold isS; rw [hp]; exact e
theorem posB_of {α : Type} [Inhabited α] {key : α → ByteArray} {l : List α} {x : ByteArray} {k : Nat} {is : Bool} (hk : k ≤ l.length) (e : is = decide (k < l.length ∧ key (l.getD k default) = x)) (h1 : ∀ j, j < k → strLt (key (l.getD j default)) x = true) (h2 : ∀ j, k ≤ j → j < l.length → strLt (key (l.getD j default)) x = false) : k = posB key l x ∧ is = isB key l x := by
  have hp : posB key l x = k := takeWhile_len (d := default) hk (fun j hj => h1 j hj) (fun hl => h2 k (Nat.le_refl _) hl)
  refine ⟨hp.symm, ?_⟩
  unfold isB; rw [hp]; exact e
theorem posS_le (l : List Stripe) (x : Int) : posS l x ≤ l.length := by unfold posS; exact (List.takeWhile_prefix _).length_le
theorem posB_le {α : Type} (key : α → ByteArray) (l : List α) (x : ByteArray) : posB key l x ≤ l.length := by unfold posB; exact (List.takeWhile_prefix _).length_le
/-- Rising lists. -/
structure Sorted (b : Book) : Prop where
  s : ∀ i j, i < j → j < b.stripes.length → (b.stripes.getD i default).id < (b.stripes.getD j default).id
  t : ∀ i j, i < j → j < b.things.length → strLt (b.things.getD i default).digest (b.things.getD j default).digest = true
  g : ∀ i j, i < j → j < b.tags.length → strLt (b.tags.getD i default).name (b.tags.getD j default).name = true
/-- What a record makes of a book. -/
def doP (b : Book) (r : Record) : Book :=
  if r.kind = 1 then { b with next := max b.next (r.id + 1) }
  else if r.kind = 2 then { b with stripes := putS b.stripes ⟨r.id, r.list.getD 0 0, r.list.getD 1 0, r.slots⟩, next := max b.next (r.id + 1) }
  else if r.kind = 4 ∨ r.kind = 5 then { b with things := putB Entry.digest b.things ⟨r.digest, r.id, decide (r.kind = 5), r.list⟩ }
  else { b with tags := putB Tag.name b.tags ⟨r.name, r.digest⟩ }
/-- What Do leaves. -/
def RetDo (X : Nat → Option Obj) (β bb : Nat) (b' : Book) (w : World) (e : Ending) (w' : World) : Prop :=
  e = .returned (.int .i64 0) ∧ (∃ A0 n0 c0 A1 n1 c1 A2 n2 c2, OB X β bb A0 n0 c0 A1 n1 c1 A2 n2 c2 b' w') ∧ Below β w w'
set_option maxRecDepth 100000 in
set_option maxHeartbeats 8000000 in
theorem Do_c {tg : Bool} {S : Nat → Prop} {X : Nat → Option Obj} {β bb : Nat} {w : World} {A0 : Option Addr} {n0 c0 : Nat} {A1 : Option Addr} {n1 c1 : Nat} {A2 : Option Addr} {n2 c2 : Nat} {A4 A5 : Option Addr} {n4 c4 n5 c5 : Nat} {b : Book} {r : Record} (hob : OB X β bb A0 n0 c0 A1 n1 c1 A2 n2 c2 b w) (hs : Sorted b)
    (hn : n0 ≤ 999999 ∧ n1 ≤ 999999 ∧ n2 ≤ 999999) (hnx : b.next ≤ 1073741825 ∧ -1 ≤ b.next) (hid : 0 ≤ r.id ∧ r.id ≤ 1073741824) (hst : StrOk r.name ∧ StrOk r.digest) (hl : Sl tg 3 intE w S A4 n4 c4 r.list) (hsl : Sl tg 67 slotE w S A5 n5 c5 r.slots) (hS : ∀ k, S k → k < β) (hln : n4 ≤ 100000000 ∧ n5 ≤ 100000000)
    (hk : r.kind = 1 ∨ (r.kind = 2 ∧ r.list.length = 2) ∨ r.kind = 4 ∨ r.kind = 5 ∨ r.kind = 7) :
    Calls Try.prog 20 #[.pointer (some ⟨bb, 0, none⟩), .agg #[.int .i64 r.kind, .int .i64 r.id, .string r.name, .string r.digest, .slice A4 n4 c4, .slice A5 n5 c5]] w (RetDo X β bb (doP b r) w) := by
  obtain ⟨kd, id, nm, dg, li, xs⟩ := r
  simp only at hid hst hl hsl hk ⊢
  have hbw := hob.box
  have hgl : Below w.heap.size w (w.alloc (.cells #[.int .i64 kd, .int .i64 id, .string nm, .string dg, .slice A4 n4 c4, .slice A5 n5 c5] 54)) := (Below.refl _ _).alloc (Nat.le_refl _) _
  have hrr := heap_alloc_new w (.cells #[.int .i64 kd, .int .i64 id, .string nm, .string dg, .slice A4 n4 c4, .slice A5 n5 c5] 54)
  have HOB := Lib.hid (hob.all hgl)
  have hgb : w.heap.size ≠ bb := by omega
  have HG0 : Hid (some w.heap.size ≠ ablk A0 ∧ some w.heap.size ≠ ablk A1 ∧ some w.heap.size ≠ ablk A2) := Lib.hid ⟨fun e => by have := (hob.st.lt _ e.symm).2; omega, fun e => by have := (hob.th.lt _ e.symm).2; omega, fun e => by have := (hob.ta.lt _ e.symm).2; omega⟩
  have HL := Lib.hid (hl.all hgl)
  have HSL := Lib.hid (hsl.all hgl)
  have HBW := Lib.hid (show Below β w (w.alloc (.cells #[.int .i64 kd, .int .i64 id, .string nm, .string dg, .slice A4 n4 c4, .slice A5 n5 c5] 54)) from hgl.mono (Nat.le_trans hob.lo (Nat.le_of_lt hbw)))
  have hlo := hob.lo
  have HN := Lib.hid (And.intro hob.st.len (And.intro hob.th.len hob.ta.len))
  have HSO := Lib.hid hs
  have hI1 : I64 (id + 1) := by unfold I64; omega
  have hI2 : I64 (max b.next (id + 1)) := by unfold I64; omega
  have hI0 : I64 id := by unfold I64; omega
  have HFL : Hid (∀ k, S k → k < (w.alloc (.cells #[.int .i64 kd, .int .i64 id, .string nm, .string dg, .slice A4 n4 c4, .slice A5 n5 c5] 54)).heap.size ∧ some k ≠ ablk A0 ∧ k ≠ bb) := Lib.hid (fun k hk => by
    have h1 := hS k hk
    refine ⟨by simp; omega, fun e => ?_, by omega⟩
    have := (hob.st.lt _ e.symm).1; omega)
  clear hob hl hsl hs
  go_enter Try.func20, Try.ntmps20
  rcases hk with rfl | ⟨rfl, h2⟩ | hk45 | hk5 | rfl
  · skip
    go_upto_region 3 with (fail)
    generalize (w.alloc (.cells #[.int .i64 1, .int .i64 id, .string nm, .string dg, .slice A4 n4 c4, .slice A5 n5 c5] 54)) = w1 at *
    have RR := Lib.hid hrr; clear hrr hgl
    refine do3 HOB RR hI1 hI2 rfl rfl rfl ?_
    intro v wz hob2 hb2
    simp only [putAll, List.map_cons, List.map_nil, List.foldl_cons, List.foldl_nil, Act.put, List.setIfInBounds_toArray, List.set_cons_succ, List.set_cons_zero]
    have HO2 := Lib.hid hob2
    have HB2 := Lib.hid (HBW.out.trans hb2)
    clear hob2 hb2
    go_wp2
    go_ret
    exact ⟨by trivial, ⟨_, _, _, _, _, _, _, _, _, HO2.out⟩, HB2.out⟩
  · skip
    go_upto_region 5 with (fail)
    generalize (w.alloc (.cells #[.int .i64 2, .int .i64 id, .string nm, .string dg, .slice A4 n4 c4, .slice A5 n5 c5] 54)) = w1 at *
    have RR := Lib.hid hrr; clear hrr hgl
    refine do5 (P := fun k is => k = posS b.stripes id ∧ is = isS b.stripes id) HOB RR (Lib.hid (fun V hV => (Stripe_c (w := V) (nx := b.next) (x := id) ((HOB.out.all hV).st.sl (tg := true)) (by omega) (fun i j h1 h2 => HSO.out.s i j h1 (by rw [HN.out.1]; exact h2))).mono (fun e w' he => by
      obtain ⟨k, hk, e1, h1, h2, hb⟩ := he
      exact ⟨k, _, e1, posS_of hk rfl h1 h2, hb⟩))) rfl rfl rfl ?_
    intro v w2 k is hv1 hv2 hp hb2
    simp only [putAll, List.map_cons, List.map_nil, List.foldl_cons, List.foldl_nil, Act.put, List.setIfInBounds_toArray, List.set_cons_succ, List.set_cons_zero]
    rw [hv1, hv2]
    obtain ⟨rfl, rfl⟩ := hp
    have HO2 := Lib.hid (HOB.out.all hb2)
    have RR2 := Lib.hid ((hb2.block _ (Array.getElem?_eq_some_iff.1 RR.out).1).trans RR.out)
    have HB2 := Lib.hid (HBW.out.trans (hb2.mono (Nat.le_trans hlo (Nat.le_of_lt HOB.out.box))))
    have HSL2 := Lib.hid (HSL.out.all hb2)
    have hlen : n4 = 2 := by rw [← h2]; exact HL.out.len.symm
    subst hlen
    obtain ⟨b4, o4, eA4, hSb, hb4, q0, y0, _⟩ := (HL.out.all hb2).int_at (k := 0) (by omega)
    obtain ⟨b4', o4', eB4, _, _, q1, y1, _⟩ := (HL.out.all hb2).int_at (k := 1) (by omega)
    subst eA4
    injection eB4 with eB4; injection eB4 with e1 e2; subst e1; subst e2
    have HF4 := Lib.hid (HFL.out b4 hSb)
    rw [Nat.add_zero] at y0
    have HC4 : Hid (∀ V : World, V.heap[b4]? = w2.heap[b4]? → V.cell? ⟨b4, o4, none⟩ = some (.int .i64 (li.getD 0 0)) ∧ V.cell? ⟨b4, o4 + 1, none⟩ = some (.int .i64 (li.getD 1 0))) := Lib.hid (fun V hV => ⟨(World.cell?_of_block (a := ⟨b4, o4, none⟩) hV).trans y0, (World.cell?_of_block (a := ⟨b4, o4 + 1, none⟩) hV).trans y1⟩)
    have HQ := Lib.hid (And.intro hI0 (And.intro q0 q1))
    clear y0 y1 q0 q1 hv1 hv2 hSb
    go_upto_region 6 with (fail)
    refine do6 (q0 := li.getD 0 0) (q1 := li.getD 1 0) (xs := xs) HQ.out HO2 RR2 hgb HG0.out.1 (by rw [← HN.out.1]; exact posS_le _ _) (fun h => by unfold isS at h; have := of_decide_eq_true h; rw [← HN.out.1]; exact this.1) hn.1 (Lib.hid (fun V hV => Clone_slot (HSL2.out.all hV) hln.2)) ⟨hb4, HF4.out.2.1, HF4.out.2.2⟩ HC4 rfl rfl rfl rfl rfl ?_
    intro v w3 A' n' c' hob3 hr3 hb3
    simp only [putAll, List.map_cons, List.map_nil, List.foldl_cons, List.foldl_nil, Act.put, List.setIfInBounds_toArray, List.set_cons_succ, List.set_cons_zero]
    have HO3 := Lib.hid hob3
    have RR3 := Lib.hid hr3
    have HB3 := Lib.hid (HB2.out.trans hb3)
    clear hob3 hr3 hb3
    go_upto_region 7 with (fail)
    refine do7 HO3 RR3 hI1 hI2 rfl rfl rfl ?_
    intro v wz hob4 hb4
    simp only [putAll, List.map_cons, List.map_nil, List.foldl_cons, List.foldl_nil, Act.put, List.setIfInBounds_toArray, List.set_cons_succ, List.set_cons_zero]
    have HO4 := Lib.hid hob4
    have HB4 := Lib.hid (HB3.out.trans hb4)
    clear hob4 hb4
    go_wp2
    go_ret
    exact ⟨by trivial, ⟨_, _, _, _, _, _, _, _, _, HO4.out⟩, HB4.out⟩
  · subst hk45
    go_upto_region 13 with (fail)
    generalize (w.alloc (.cells #[.int .i64 4, .int .i64 id, .string nm, .string dg, .slice A4 n4 c4, .slice A5 n5 c5] 54)) = w1 at *
    have RR := Lib.hid hrr; clear hrr hgl
    refine do13 (P := fun k is => k = posB Entry.digest b.things dg ∧ is = isB Entry.digest b.things dg) HOB RR (Lib.hid (fun V hV => (Thing_c (w := V) (nx := b.next) (x := dg) ((HOB.out.all hV).th.sl (tg := true)) (by omega) (fun i j h1 h2 => HSO.out.t i j h1 (by rw [HN.out.2.1]; exact h2))).mono (fun e w' he => by
      obtain ⟨k, hk, e1, h1, h2, hb⟩ := he
      exact ⟨k, _, e1, posB_of hk rfl h1 h2, hb⟩))) rfl rfl rfl ?_
    intro v w2 k is hv1 hv2 hp hb2
    simp only [putAll, List.map_cons, List.map_nil, List.foldl_cons, List.foldl_nil, Act.put, List.setIfInBounds_toArray, List.set_cons_succ, List.set_cons_zero]
    rw [hv1, hv2]
    obtain ⟨rfl, rfl⟩ := hp
    have HO2 := Lib.hid (HOB.out.all hb2)
    have RR2 := Lib.hid ((hb2.block _ (Array.getElem?_eq_some_iff.1 RR.out).1).trans RR.out)
    have HB2 := Lib.hid (HBW.out.trans (hb2.mono (Nat.le_trans hlo (Nat.le_of_lt HOB.out.box))))
    have HL2 := Lib.hid (HL.out.all hb2)
    clear hv1 hv2 hb2
    go_upto_region 14 with (fail)
    refine do14 (man := false) (xs := li) ⟨hst.2, hI0⟩ (by decide) (by decide) HO2 RR2 hgb HG0.out.2.1 (by rw [← HN.out.2.1]; exact posB_le _ _ _) (fun h => by unfold isB at h; have := of_decide_eq_true h; rw [← HN.out.2.1]; exact this.1) hn.2.1 (Lib.hid (fun V hV => Clone_int (HL2.out.all hV) hln.1)) rfl rfl rfl rfl rfl ?_
    intro v w3 A' n' c' hob3 _ hb3
    simp only [putAll, List.map_cons, List.map_nil, List.foldl_cons, List.foldl_nil, Act.put, List.setIfInBounds_toArray, List.set_cons_succ, List.set_cons_zero]
    have HO3 := Lib.hid hob3
    have HB3 := Lib.hid (HB2.out.trans hb3)
    clear hob3 hb3
    go_wp2
    go_ret
    exact ⟨by trivial, ⟨_, _, _, _, _, _, _, _, _, HO3.out⟩, HB3.out⟩
  · subst hk5
    go_upto_region 13 with (fail)
    generalize (w.alloc (.cells #[.int .i64 5, .int .i64 id, .string nm, .string dg, .slice A4 n4 c4, .slice A5 n5 c5] 54)) = w1 at *
    have RR := Lib.hid hrr; clear hrr hgl
    refine do13 (P := fun k is => k = posB Entry.digest b.things dg ∧ is = isB Entry.digest b.things dg) HOB RR (Lib.hid (fun V hV => (Thing_c (w := V) (nx := b.next) (x := dg) ((HOB.out.all hV).th.sl (tg := true)) (by omega) (fun i j h1 h2 => HSO.out.t i j h1 (by rw [HN.out.2.1]; exact h2))).mono (fun e w' he => by
      obtain ⟨k, hk, e1, h1, h2, hb⟩ := he
      exact ⟨k, _, e1, posB_of hk rfl h1 h2, hb⟩))) rfl rfl rfl ?_
    intro v w2 k is hv1 hv2 hp hb2
    simp only [putAll, List.map_cons, List.map_nil, List.foldl_cons, List.foldl_nil, Act.put, List.setIfInBounds_toArray, List.set_cons_succ, List.set_cons_zero]
    rw [hv1, hv2]
    obtain ⟨rfl, rfl⟩ := hp
    have HO2 := Lib.hid (HOB.out.all hb2)
    have RR2 := Lib.hid ((hb2.block _ (Array.getElem?_eq_some_iff.1 RR.out).1).trans RR.out)
    have HB2 := Lib.hid (HBW.out.trans (hb2.mono (Nat.le_trans hlo (Nat.le_of_lt HOB.out.box))))
    have HL2 := Lib.hid (HL.out.all hb2)
    clear hv1 hv2 hb2
    go_upto_region 14 with (fail)
    refine do14 (man := true) (xs := li) ⟨hst.2, hI0⟩ (by decide) (by decide) HO2 RR2 hgb HG0.out.2.1 (by rw [← HN.out.2.1]; exact posB_le _ _ _) (fun h => by unfold isB at h; have := of_decide_eq_true h; rw [← HN.out.2.1]; exact this.1) hn.2.1 (Lib.hid (fun V hV => Clone_int (HL2.out.all hV) hln.1)) rfl rfl rfl rfl rfl ?_
    intro v w3 A' n' c' hob3 _ hb3
    simp only [putAll, List.map_cons, List.map_nil, List.foldl_cons, List.foldl_nil, Act.put, List.setIfInBounds_toArray, List.set_cons_succ, List.set_cons_zero]
    have HO3 := Lib.hid hob3
    have HB3 := Lib.hid (HB2.out.trans hb3)
    clear hob3 hb3
    go_wp2
    go_ret
    exact ⟨by trivial, ⟨_, _, _, _, _, _, _, _, _, HO3.out⟩, HB3.out⟩
  · skip
    go_upto_region 19 with (fail)
    generalize (w.alloc (.cells #[.int .i64 7, .int .i64 id, .string nm, .string dg, .slice A4 n4 c4, .slice A5 n5 c5] 54)) = w1 at *
    have RR := Lib.hid hrr; clear hrr hgl
    refine do19 (P := fun k is => k = posB Tag.name b.tags nm ∧ is = isB Tag.name b.tags nm) HOB RR (Lib.hid (fun V hV => (searchTag_c (w := V) (x := nm) ((HOB.out.all hV).ta.sl (tg := true)) (by omega) (fun i j h1 h2 => HSO.out.g i j h1 (by rw [HN.out.2.2]; exact h2))).mono (fun e w' he => by
      obtain ⟨k, hk, e1, h1, h2, hb⟩ := he
      exact ⟨k, _, e1, posB_of hk rfl h1 h2, hb⟩))) rfl rfl rfl ?_
    intro v w2 k is hv1 hv2 hp hb2
    simp only [putAll, List.map_cons, List.map_nil, List.foldl_cons, List.foldl_nil, Act.put, List.setIfInBounds_toArray, List.set_cons_succ, List.set_cons_zero]
    rw [hv1, hv2]
    obtain ⟨rfl, rfl⟩ := hp
    have HO2 := Lib.hid (HOB.out.all hb2)
    have RR2 := Lib.hid ((hb2.block _ (Array.getElem?_eq_some_iff.1 RR.out).1).trans RR.out)
    have HB2 := Lib.hid (HBW.out.trans (hb2.mono (Nat.le_trans hlo (Nat.le_of_lt HOB.out.box))))
    clear hv1 hv2 hb2
    go_upto_region 20 with (fail)
    refine do20 hst HO2 RR2 hgb HG0.out.2.2 (by rw [← HN.out.2.2]; exact posB_le _ _ _) (fun h => by unfold isB at h; have := of_decide_eq_true h; rw [← HN.out.2.2]; exact this.1) hn.2.2 rfl rfl rfl rfl rfl ?_
    intro v w3 A' n' c' hob3 _ hb3
    simp only [putAll, List.map_cons, List.map_nil, List.foldl_cons, List.foldl_nil, Act.put, List.setIfInBounds_toArray, List.set_cons_succ, List.set_cons_zero]
    have HO3 := Lib.hid hob3
    have HB3 := Lib.hid (HB2.out.trans hb3)
    clear hob3 hb3
    go_wp2
    go_ret
    exact ⟨by trivial, ⟨_, _, _, _, _, _, _, _, _, HO3.out⟩, HB3.out⟩
end Go.Proofs.Ytipecejghioicaa
