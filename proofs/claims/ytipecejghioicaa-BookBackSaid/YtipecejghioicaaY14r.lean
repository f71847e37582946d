/- book.Do, for all records. Printed by gen_y14.py. -/
import Derived.Test.YtipecejghioicaaY7r
import Derived.Test.YtipecejghioicaaY12r
import Derived.Deep.CutBlock
import Derived.Deep.Cut
-- from Y13r
namespace Go.Proofs.Ytipecejghioicaa
open Go.RowKit Go.Silo
/-- What is left behind what may take something out. -/
def RetGone (X : Nat → Option Obj) (β bb : Nat) (is : Bool) (b b' : Book) (w : World) (e : Ending) (w' : World) : Prop :=
  e = .returned (.int .i64 (if is then 0 else 3)) ∧ (∃ A0 n0 c0 A1 n1 c1 A2 n2 c2, OB X β bb A0 n0 c0 A1 n1 c1 A2 n2 c2 (if is then b' else b) w') ∧ Below β w w'
set_option maxRecDepth 100000 in
set_option maxHeartbeats 4000000 in
theorem gone_Stripe {X : Nat → Option Obj} {β bb : Nat} {w : World} {A0 : Option Addr} {n0 c0 : Nat} {A1 : Option Addr} {n1 c1 : Nat} {A2 : Option Addr} {n2 c2 : Nat} {b : Book} {i : Nat} {is : Bool} (hob : OB X β bb A0 n0 c0 A1 n1 c1 A2 n2 c2 b w) (his : is = true → i < n0) (hn : n0 ≤ 1000000) :
    Calls Try.prog 40 #[.pointer (some ⟨bb, 0, none⟩), .int .i64 (i : Int), .bool is] w (RetGone X β bb is b { b with stripes := delL i b.stripes } w) := by
  have HOB := Lib.hid hob
  cases is with
  | false =>
    clear hob
    go_enter Try.func40, Try.ntmps40
    go_wp2
    go_ret
    exact ⟨rfl, ⟨_, _, _, _, _, _, _, _, _, HOB.out⟩, Below.refl _ _⟩
  | true =>
    have hrow := hob.row
    have hbb := hob.box
    have x0 := (cell_of_row _ _ 0 _ _ _ hrow).trans (show _ = some (.slice A0 n0 c0 : Value) from rfl)
    have HD := Lib.hid (Delete_Stripe (i := i) hob.st (his rfl) hn)
    have hcap : n0 ≤ 9223372036854775807 := by omega
    have hi9 : i < n0 := his rfl
    clear hob his hrow
    go_enter Try.func40, Try.ntmps40
    go_wp2_with fail
    refine HD.out.mono ?_
    clear x0
    rintro e w2 ⟨rfl, hown, hgr⟩
    have hchg := Chg.of_grown hgr
    have hrow2 := (hchg.agree bb (fun e => HOB.out.ap.b0 e.symm) HOB.out.box).trans HOB.out.row
    have x0 := (cell_of_row _ _ 0 _ _ _ hrow2).trans (show _ = some (.slice A0 n0 c0 : Value) from rfl)
    have f0 := frozen_of_row _ _ 0 _ _ hrow2
    have HP := Lib.hid (HOB.out.put0 hchg hown (.inl rfl))
    clear hown hgr hchg hrow2
    go_wp2
    go_ret
    exact ⟨rfl, ⟨_, _, _, _, _, _, _, _, _, HP.out.1⟩, HP.out.2⟩
set_option maxRecDepth 100000 in
set_option maxHeartbeats 4000000 in
theorem gone_Entry {X : Nat → Option Obj} {β bb : Nat} {w : World} {A0 : Option Addr} {n0 c0 : Nat} {A1 : Option Addr} {n1 c1 : Nat} {A2 : Option Addr} {n2 c2 : Nat} {b : Book} {i : Nat} {is : Bool} (hob : OB X β bb A0 n0 c0 A1 n1 c1 A2 n2 c2 b w) (his : is = true → i < n1) (hn : n1 ≤ 1000000) :
    Calls Try.prog 43 #[.pointer (some ⟨bb, 1, none⟩), .int .i64 (i : Int), .bool is] w (RetGone X β bb is b { b with things := delL i b.things } w) := by
  have HOB := Lib.hid hob
  cases is with
  | false =>
    clear hob
    go_enter Try.func43, Try.ntmps43
    go_wp2
    go_ret
    exact ⟨rfl, ⟨_, _, _, _, _, _, _, _, _, HOB.out⟩, Below.refl _ _⟩
  | true =>
    have hrow := hob.row
    have hbb := hob.box
    have x0 := (cell_of_row _ _ 1 _ _ _ hrow).trans (show _ = some (.slice A1 n1 c1 : Value) from rfl)
    have HD := Lib.hid (Delete_Entry (i := i) hob.th (his rfl) hn)
    have hcap : n1 ≤ 9223372036854775807 := by omega
    have hi9 : i < n1 := his rfl
    clear hob his hrow
    go_enter Try.func43, Try.ntmps43
    go_wp2_with fail
    refine HD.out.mono ?_
    clear x0
    rintro e w2 ⟨rfl, hown, hgr⟩
    have hchg := Chg.of_grown hgr
    have hrow2 := (hchg.agree bb (fun e => HOB.out.ap.b1 e.symm) HOB.out.box).trans HOB.out.row
    have x0 := (cell_of_row _ _ 1 _ _ _ hrow2).trans (show _ = some (.slice A1 n1 c1 : Value) from rfl)
    have f0 := frozen_of_row _ _ 1 _ _ hrow2
    have HP := Lib.hid (HOB.out.put1 hchg hown (.inl rfl))
    clear hown hgr hchg hrow2
    go_wp2
    go_ret
    exact ⟨rfl, ⟨_, _, _, _, _, _, _, _, _, HP.out.1⟩, HP.out.2⟩
set_option maxRecDepth 100000 in
set_option maxHeartbeats 4000000 in
theorem gone_Tag {X : Nat → Option Obj} {β bb : Nat} {w : World} {A0 : Option Addr} {n0 c0 : Nat} {A1 : Option Addr} {n1 c1 : Nat} {A2 : Option Addr} {n2 c2 : Nat} {b : Book} {i : Nat} {is : Bool} (hob : OB X β bb A0 n0 c0 A1 n1 c1 A2 n2 c2 b w) (his : is = true → i < n2) (hn : n2 ≤ 1000000) :
    Calls Try.prog 47 #[.pointer (some ⟨bb, 2, none⟩), .int .i64 (i : Int), .bool is] w (RetGone X β bb is b { b with tags := delL i b.tags } w) := by
  have HOB := Lib.hid hob
  cases is with
  | false =>
    clear hob
    go_enter Try.func47, Try.ntmps47
    go_wp2
    go_ret
    exact ⟨rfl, ⟨_, _, _, _, _, _, _, _, _, HOB.out⟩, Below.refl _ _⟩
  | true =>
    have hrow := hob.row
    have hbb := hob.box
    have x0 := (cell_of_row _ _ 2 _ _ _ hrow).trans (show _ = some (.slice A2 n2 c2 : Value) from rfl)
    have HD := Lib.hid (Delete_Tag (i := i) hob.ta (his rfl) hn)
    have hcap : n2 ≤ 9223372036854775807 := by omega
    have hi9 : i < n2 := his rfl
    clear hob his hrow
    go_enter Try.func47, Try.ntmps47
    go_wp2_with fail
    refine HD.out.mono ?_
    clear x0
    rintro e w2 ⟨rfl, hown, hgr⟩
    have hchg := Chg.of_grown hgr
    have hrow2 := (hchg.agree bb (fun e => HOB.out.ap.b2 e.symm) HOB.out.box).trans HOB.out.row
    have x0 := (cell_of_row _ _ 2 _ _ _ hrow2).trans (show _ = some (.slice A2 n2 c2 : Value) from rfl)
    have f0 := frozen_of_row _ _ 2 _ _ hrow2
    have HP := Lib.hid (HOB.out.put2 hchg hown (.inl rfl))
    clear hown hgr hchg hrow2
    go_wp2
    go_ret
    exact ⟨rfl, ⟨_, _, _, _, _, _, _, _, _, HP.out.1⟩, HP.out.2⟩
end Go.Proofs.Ytipecejghioicaa
namespace Go.Proofs.Ytipecejghioicaa
open Go.RowKit Go.Silo
/-- What a record makes of a book, if it may. -/
def doR (b : Book) (r : Record) : Option Book :=
  if r.kind = 3 then (if isS b.stripes r.id = true then some { b with stripes := delL (posS b.stripes r.id) b.stripes } else none)
  else if r.kind = 6 then (if isB Entry.digest b.things r.digest = true then some { b with things := delL (posB Entry.digest b.things r.digest) b.things } else none)
  else if r.kind = 8 then (if isB Tag.name b.tags r.name = true then some { b with tags := delL (posB Tag.name b.tags r.name) b.tags } else none)
  else some (doP b r)
/-- What Do leaves. -/
def RetDoE (X : Nat → Option Obj) (β bb : Nat) (o : Option Book) (b : Book) (w : World) (e : Ending) (w' : World) : Prop :=
  e = .returned (.int .i64 (if o.isSome then 0 else 3)) ∧ (∃ A0 n0 c0 A1 n1 c1 A2 n2 c2, OB X β bb A0 n0 c0 A1 n1 c1 A2 n2 c2 (o.getD b) w') ∧ Below β w w'
theorem RetDoE.of_gone {X : Nat → Option Obj} {β bb : Nat} {is : Bool} {b b' : Book} {o : Option Book} {w w1 : World} {e : Ending} {w' : World} (ho : o = if is = true then some b' else none) (hb : Below β w w1) (h : RetGone X β bb is b b' w1 e w') : RetDoE X β bb o b w e w' := by
  obtain ⟨h1, h2, h3⟩ := h
  subst ho
  cases is with
  | true => exact ⟨h1, h2, hb.trans h3⟩
  | false => exact ⟨h1, h2, hb.trans h3⟩
set_option maxRecDepth 100000 in
set_option maxHeartbeats 8000000 in
theorem DoOut_c {tg : Bool} {S : Nat → Prop} {X : Nat → Option Obj} {β bb : Nat} {w : World} {A0 : Option Addr} {n0 c0 : Nat} {A1 : Option Addr} {n1 c1 : Nat} {A2 : Option Addr} {n2 c2 : Nat} {A4 A5 : Option Addr} {n4 c4 n5 c5 : Nat} {b : Book} {r : Record} (hob : OB X β bb A0 n0 c0 A1 n1 c1 A2 n2 c2 b w) (hs : Sorted b)
    (hn : n0 ≤ 999999 ∧ n1 ≤ 999999 ∧ n2 ≤ 999999) (hnx : b.next ≤ 1073741825 ∧ -1 ≤ b.next) (hid : 0 ≤ r.id ∧ r.id ≤ 1073741824) (hst : StrOk r.name ∧ StrOk r.digest) (hl : Sl tg 3 intE w S A4 n4 c4 r.list) (hsl : Sl tg 67 slotE w S A5 n5 c5 r.slots) (hS : ∀ k, S k → k < β) (_hln : n4 ≤ 100000000 ∧ n5 ≤ 100000000)
    (hk : r.kind = 3 ∨ r.kind = 6 ∨ r.kind = 8) :
    Calls Try.prog 20 #[.pointer (some ⟨bb, 0, none⟩), .agg #[.int .i64 r.kind, .int .i64 r.id, .string r.name, .string r.digest, .slice A4 n4 c4, .slice A5 n5 c5]] w (RetDoE X β bb (doR b r) b w) := by
  obtain ⟨kd, id, nm, dg, li, xs⟩ := r
  simp only at hid hst hl hsl hk ⊢
  have hbw := hob.box
  have hgl : Below w.heap.size w (w.alloc (.cells #[.int .i64 kd, .int .i64 id, .string nm, .string dg, .slice A4 n4 c4, .slice A5 n5 c5] 54)) := (Below.refl _ _).alloc (Nat.le_refl _) _
  have hrr := heap_alloc_new w (.cells #[.int .i64 kd, .int .i64 id, .string nm, .string dg, .slice A4 n4 c4, .slice A5 n5 c5] 54)
  have HOB := Lib.hid (hob.all hgl)
  have hgb : w.heap.size ≠ bb := by omega
  have HG0 : Hid (some w.heap.size ≠ ablk A0 ∧ some w.heap.size ≠ ablk A1 ∧ some w.heap.size ≠ ablk A2) := Lib.hid ⟨fun e => by have := (hob.st.lt _ e.symm).2; omega, fun e => by have := (hob.th.lt _ e.symm).2; omega, fun e => by have := (hob.ta.lt _ e.symm).2; omega⟩
  have HL := Lib.hid (hl.all hgl)
  have HSL := Lib.hid (hsl.all hgl)
  have HBW := Lib.hid (show Below β w (w.alloc (.cells #[.int .i64 kd, .int .i64 id, .string nm, .string dg, .slice A4 n4 c4, .slice A5 n5 c5] 54)) from hgl.mono (Nat.le_trans hob.lo (Nat.le_of_lt hbw)))
  have hlo := hob.lo
  have HN := Lib.hid (And.intro hob.st.len (And.intro hob.th.len hob.ta.len))
  have HSO := Lib.hid hs
  have hI1 : I64 (id + 1) := by unfold I64; omega
  have hI2 : I64 (max b.next (id + 1)) := by unfold I64; omega
  have hI0 : I64 id := by unfold I64; omega
  have HFL : Hid (∀ k, S k → k < (w.alloc (.cells #[.int .i64 kd, .int .i64 id, .string nm, .string dg, .slice A4 n4 c4, .slice A5 n5 c5] 54)).heap.size ∧ some k ≠ ablk A0 ∧ k ≠ bb) := Lib.hid (fun k hk => by
    have h1 := hS k hk
    refine ⟨by simp; omega, fun e => ?_, by omega⟩
    have := (hob.st.lt _ e.symm).1; omega)
  clear hob hl hsl hs
  go_enter Try.func20, Try.ntmps20
  rcases hk with rfl | rfl | rfl
  · skip
    go_upto_region 9 with (fail)
    generalize (w.alloc (.cells #[.int .i64 3, .int .i64 id, .string nm, .string dg, .slice A4 n4 c4, .slice A5 n5 c5] 54)) = w1 at *
    have RR := Lib.hid hrr; clear hrr hgl
    refine do9 (P := fun k is => k = posS b.stripes id ∧ is = isS b.stripes id) HOB RR (Lib.hid (fun V hV => (Stripe_c (w := V) (nx := b.next) (x := id) ((HOB.out.all hV).st.sl (tg := true)) (by omega) (fun i j h1 h2 => HSO.out.s i j h1 (by rw [HN.out.1]; exact h2))).mono (fun e w' he => by
      obtain ⟨k, hk, e1, h1, h2, hb⟩ := he
      exact ⟨k, _, e1, posS_of hk rfl h1 h2, hb⟩))) rfl rfl rfl ?_
    intro v w2 k is hv1 hv2 hp hb2
    simp only [putAll, List.map_cons, List.map_nil, List.foldl_cons, List.foldl_nil, Act.put, List.setIfInBounds_toArray, List.set_cons_succ, List.set_cons_zero]
    rw [hv1, hv2]
    obtain ⟨rfl, rfl⟩ := hp
    have HO2 := Lib.hid (HOB.out.all hb2)
    have HB2 := Lib.hid (HBW.out.trans (hb2.mono (Nat.le_trans hlo (Nat.le_of_lt HOB.out.box))))
    clear hv1 hv2 hb2
    have HGN := Lib.hid (gone_Stripe (i := posS b.stripes id) (is := isS b.stripes id) HO2.out (fun h => by unfold isS at h; have := of_decide_eq_true h; rw [← HN.out.1]; exact this.1) (by omega))
    have HOE : Hid (doR b ⟨3, id, nm, dg, li, xs⟩ = if isS b.stripes id = true then some { b with stripes := delL (posS b.stripes id) b.stripes } else none) := Lib.hid (by unfold doR; rfl)
    generalize doR b ⟨3, id, nm, dg, li, xs⟩ = RR9 at *
    obtain ⟨is9, his9⟩ : ∃ is9, is9 = isS b.stripes id := ⟨_, rfl⟩
    rw [← his9] at HGN HOE ⊢
    obtain ⟨ps9, hps9⟩ : ∃ ps9, ps9 = posS b.stripes id := ⟨_, rfl⟩
    rw [← hps9] at HGN HOE ⊢
    clear his9 hps9
    go_wp2_with fail
    refine HGN.out.mono ?_
    rintro e w3 hgone
    have HGO := Lib.hid (RetDoE.of_gone HOE.out HB2.out hgone)
    obtain ⟨he9, _, _⟩ := hgone
    generalize (if is9 = true then (0 : Int) else 3) = er9 at he9
    subst he9
    go_wp2
    go_ret
    exact HGO.out
  · skip
    go_upto_region 16 with (fail)
    generalize (w.alloc (.cells #[.int .i64 6, .int .i64 id, .string nm, .string dg, .slice A4 n4 c4, .slice A5 n5 c5] 54)) = w1 at *
    have RR := Lib.hid hrr; clear hrr hgl
    refine do16 (P := fun k is => k = posB Entry.digest b.things dg ∧ is = isB Entry.digest b.things dg) HOB RR (Lib.hid (fun V hV => (Thing_c (w := V) (nx := b.next) (x := dg) ((HOB.out.all hV).th.sl (tg := true)) (by omega) (fun i j h1 h2 => HSO.out.t i j h1 (by rw [HN.out.2.1]; exact h2))).mono (fun e w' he => by
      obtain ⟨k, hk, e1, h1, h2, hb⟩ := he
      exact ⟨k, _, e1, posB_of hk rfl h1 h2, hb⟩))) rfl rfl rfl ?_
    intro v w2 k is hv1 hv2 hp hb2
    simp only [putAll, List.map_cons, List.map_nil, List.foldl_cons, List.foldl_nil, Act.put, List.setIfInBounds_toArray, List.set_cons_succ, List.set_cons_zero]
    rw [hv1, hv2]
    obtain ⟨rfl, rfl⟩ := hp
    have HO2 := Lib.hid (HOB.out.all hb2)
    have HB2 := Lib.hid (HBW.out.trans (hb2.mono (Nat.le_trans hlo (Nat.le_of_lt HOB.out.box))))
    clear hv1 hv2 hb2
    have HGN := Lib.hid (gone_Entry (i := posB Entry.digest b.things dg) (is := isB Entry.digest b.things dg) HO2.out (fun h => by unfold isB at h; have := of_decide_eq_true h; rw [← HN.out.2.1]; exact this.1) (by omega))
    have HOE : Hid (doR b ⟨6, id, nm, dg, li, xs⟩ = if isB Entry.digest b.things dg = true then some { b with things := delL (posB Entry.digest b.things dg) b.things } else none) := Lib.hid (by unfold doR; rfl)
    generalize doR b ⟨6, id, nm, dg, li, xs⟩ = RR9 at *
    obtain ⟨is9, his9⟩ : ∃ is9, is9 = isB Entry.digest b.things dg := ⟨_, rfl⟩
    rw [← his9] at HGN HOE ⊢
    obtain ⟨ps9, hps9⟩ : ∃ ps9, ps9 = posB Entry.digest b.things dg := ⟨_, rfl⟩
    rw [← hps9] at HGN HOE ⊢
    clear his9 hps9
    go_wp2_with fail
    refine HGN.out.mono ?_
    rintro e w3 hgone
    have HGO := Lib.hid (RetDoE.of_gone HOE.out HB2.out hgone)
    obtain ⟨he9, _, _⟩ := hgone
    generalize (if is9 = true then (0 : Int) else 3) = er9 at he9
    subst he9
    go_wp2
    go_ret
    exact HGO.out
  · skip
    go_upto_region 22 with (fail)
    generalize (w.alloc (.cells #[.int .i64 8, .int .i64 id, .string nm, .string dg, .slice A4 n4 c4, .slice A5 n5 c5] 54)) = w1 at *
    have RR := Lib.hid hrr; clear hrr hgl
    refine do22 (P := fun k is => k = posB Tag.name b.tags nm ∧ is = isB Tag.name b.tags nm) HOB RR (Lib.hid (fun V hV => (searchTag_c (w := V) (x := nm) ((HOB.out.all hV).ta.sl (tg := true)) (by omega) (fun i j h1 h2 => HSO.out.g i j h1 (by rw [HN.out.2.2]; exact h2))).mono (fun e w' he => by
      obtain ⟨k, hk, e1, h1, h2, hb⟩ := he
      exact ⟨k, _, e1, posB_of hk rfl h1 h2, hb⟩))) rfl rfl rfl ?_
    intro v w2 k is hv1 hv2 hp hb2
    simp only [putAll, List.map_cons, List.map_nil, List.foldl_cons, List.foldl_nil, Act.put, List.setIfInBounds_toArray, List.set_cons_succ, List.set_cons_zero]
    rw [hv1, hv2]
    obtain ⟨rfl, rfl⟩ := hp
    have HO2 := Lib.hid (HOB.out.all hb2)
    have HB2 := Lib.hid (HBW.out.trans (hb2.mono (Nat.le_trans hlo (Nat.le_of_lt HOB.out.box))))
    clear hv1 hv2 hb2
    have HGN := Lib.hid (gone_Tag (i := posB Tag.name b.tags nm) (is := isB Tag.name b.tags nm) HO2.out (fun h => by unfold isB at h; have := of_decide_eq_true h; rw [← HN.out.2.2]; exact this.1) (by omega))
    have HOE : Hid (doR b ⟨8, id, nm, dg, li, xs⟩ = if isB Tag.name b.tags nm = true then some { b with tags := delL (posB Tag.name b.tags nm) b.tags } else none) := Lib.hid (by unfold doR; rfl)
    generalize doR b ⟨8, id, nm, dg, li, xs⟩ = RR9 at *
    obtain ⟨is9, his9⟩ : ∃ is9, is9 = isB Tag.name b.tags nm := ⟨_, rfl⟩
    rw [← his9] at HGN HOE ⊢
    obtain ⟨ps9, hps9⟩ : ∃ ps9, ps9 = posB Tag.name b.tags nm := ⟨_, rfl⟩
    rw [← hps9] at HGN HOE ⊢
    clear his9 hps9
    go_wp2_with fail
    refine HGN.out.mono ?_
    rintro e w3 hgone
    have HGO := Lib.hid (RetDoE.of_gone HOE.out HB2.out hgone)
    obtain ⟨he9, _, _⟩ := hgone
    generalize (if is9 = true then (0 : Int) else 3) = er9 at he9
    subst he9
    go_wp2
    go_ret
    exact HGO.out
end Go.Proofs.Ytipecejghioicaa
