/- strings.Compare; book.Thing and the search of a tag: those that lie by rising texts. Printed by gen_y3.py. -/
import Derived.Test.YtipecejghioicaaQ2r
import Derived.Test.YtipecejghioicaaQ3r
import Derived.Lib.Bytealg
import Derived.Lib.Bytes
import Derived.Deep.CutBlock
import Derived.Deep.Cut
import Derived.Deep.Light
namespace Go.Proofs.Ytipecejghioicaa
open Go.RowKit Go.Silo

/-- What strings.Compare answers. -/
def cmpS (a b : ByteArray) : Int := Lib.compareBytes a.data.toList b.data.toList
theorem cmpB_lt : ∀ x y : List UInt8, (Lib.compareBytes x y < 0) = (Op.bytesLess x y = true) ∧ (Lib.compareBytes x y == 0) = decide (x = y)
  | [], [] => by simp [Lib.compareBytes, Op.bytesLess]
  | [], _ :: _ => by simp [Lib.compareBytes, Op.bytesLess]
  | _ :: _, [] => by simp [Lib.compareBytes, Op.bytesLess]
  | a :: x, b :: y => by
    have ih := cmpB_lt x y
    unfold Op.bytesLess Lib.compareBytes
    rcases Nat.lt_trichotomy a.toNat b.toNat with h | h | h
    · have h1 : a < b := UInt8.lt_iff_toNat_lt.2 h
      have h3 : ¬ a = b := fun e => by subst e; omega
      simp [h1, h3]
    · obtain rfl := UInt8.toNat_inj.1 h
      simp [ih.1, ih.2]
    · have h1 : ¬ a < b := fun h' => by have := UInt8.lt_iff_toNat_lt.1 h'; omega
      have h2 : b < a := UInt8.lt_iff_toNat_lt.2 h
      have h3 : ¬ a = b := fun e => by subst e; omega
      simp [h1, h2, h3]
theorem cmpS_neg (a b : ByteArray) : cmpS a b < 0 ↔ strLt a b = true := by
  unfold cmpS strLt; rw [Lib.toList_data, Lib.toList_data, (cmpB_lt _ _).1]
theorem cmpS_zero (a b : ByteArray) : (cmpS a b == 0) = decide (a = b) := by
  unfold cmpS; rw [(cmpB_lt _ _).2]
  exact decide_eq_decide.2 ⟨fun h => by cases a; cases b; simp only [ByteArray.mk.injEq] at *; exact Array.toList_inj.1 h, fun h => by rw [h]⟩
theorem less_trans : ∀ x y z : List UInt8, Op.bytesLess x y = true → Op.bytesLess y z = true → Op.bytesLess x z = true
  | _, [], _, h, _ => by rename_i x z; cases x <;> simp [Op.bytesLess] at h
  | [], _ :: _, [], _, h => by simp [Op.bytesLess] at h
  | [], _ :: _, _ :: _, _, _ => by simp [Op.bytesLess]
  | _ :: _, _ :: _, [], _, h => by simp [Op.bytesLess] at h
  | a :: x, b :: y, c :: z, h1, h2 => by
    unfold Op.bytesLess at h1 h2 ⊢
    simp only [Bool.or_eq_true, Bool.and_eq_true, decide_eq_true_eq, beq_iff_eq] at *
    rcases h1 with h1 | ⟨rfl, h1⟩ <;> rcases h2 with h2 | ⟨rfl, h2⟩
    · exact .inl (by rw [UInt8.lt_iff_toNat_lt] at *; omega)
    · exact .inl h1
    · exact .inl h2
    · exact .inr ⟨rfl, less_trans x y z h1 h2⟩
theorem strLt_trans {a b c : ByteArray} (h1 : strLt a b = true) (h2 : strLt b c = true) : strLt a c = true := less_trans _ _ _ h1 h2
theorem strLt_total {a b : ByteArray} (h : strLt a b = false) (hne : a ≠ b) : strLt b a = true := by
  have h1 : ¬ cmpS a b < 0 := fun h' => by rw [(cmpS_neg a b).1 h'] at h; cases h
  have h2 := bytes_tri a.toList b.toList
  have h3 : Op.bytesLess a.toList b.toList = false := h
  rw [h3] at h2
  simp only [Bool.not_false, Bool.or_eq_true, beq_iff_eq] at h2
  rcases h2 with h2 | h2
  · exact h2
  · rw [Lib.toList_data, Lib.toList_data] at h2
    exact absurd (by cases a; cases b; simp only [ByteArray.mk.injEq] at *; exact (Array.toList_inj.1 h2).symm) hne
set_option maxRecDepth 100000 in
set_option maxHeartbeats 2000000 in
theorem cmpString_c {w : World} {a b : ByteArray} : Calls Try.prog 86 #[.string a, .string b] w (RetV (.int .i64 (cmpS a b)) w) := by
  go_enter Try.func86, Try.ntmps86
  go_wp2
  rw [run_callFunc_extern Try.func93 (by kernel_rfl) (by kernel_rfl) (by kernel_rfl) (e := Extern.BytealgCompare.compare) (by kernel_rfl), Lib.run_compareString]
  simp only [Result.andThen]
  rw [Oper.upon_value]
  go_wp2
  go_ret
  exact ⟨rfl, Below.refl _ _⟩
set_option maxHeartbeats 2000000 in
theorem strCompare_c {w : World} {a b : ByteArray} : Calls Try.prog 67 #[.string a, .string b] w (RetV (.int .i64 (cmpS a b)) w) := by
  go_enter Try.func67, Try.ntmps67
  go_wp2_with fail
  refine (cmpString_c (a := a) (b := b)).mono ?_
  rintro e w1 ⟨rfl, hb1⟩
  go_wp2
  go_ret
  exact ⟨rfl, hb1⟩
/-- What a search by texts answers. -/
def RetFoundS {α : Type} [Inhabited α] (key : α → ByteArray) (l : List α) (x : ByteArray) (w : World) (e : Ending) (w' : World) : Prop :=
  ∃ i : Nat, i ≤ l.length ∧ e = .returned (.tuple #[.int .i64 (i : Int), .bool (decide (i < l.length ∧ key (l.getD i default) = x))]) ∧ (∀ j, j < i → strLt (key (l.getD j default)) x = true) ∧ (∀ j, i ≤ j → j < l.length → strLt (key (l.getD j default)) x = false) ∧ Below w.heap.size w w'

set_option maxHeartbeats 2000000 in
theorem byDigest_c {w : World} {a x : ByteArray} {p1 p2 p3 : Value} :
    Calls Try.prog 64 #[.agg #[.string a, p1, p2, p3], .string x] w (RetV (.int .i64 (cmpS a x)) w) := by
  go_enter Try.func64, Try.ntmps64
  go_wp2_with fail
  refine (strCompare_c (a := a) (b := x)).mono ?_
  rintro e w1 ⟨rfl, hb1⟩
  (obtain ⟨hc_w1, hf_w1⟩ := bcell hb1; have z_w1_0 : w.heap.size < w1.heap.size := (by have := hb1.size; first | omega | (simp at this; omega)))
  go_wp2
  go_ret
  exact ⟨by trivial, (by repeat' (first | (with_reducible exact Below.refl _ _) | (with_reducible refine Below.alloc ?_ ?_ _) | (with_reducible refine Below.drew ?_) | (with_reducible refine below_drewN ?_ _) | (with_reducible refine Below.setCell ?_ ?_ _) | (refine via ?_ (by with_reducible assumption) ?_) | (refine via ?_ (below_ext _ _) ?_) | go_size))⟩
set_option maxRecDepth 100000 in
set_option maxHeartbeats 4000000 in
theorem searchEntry_c {tg1 : Bool} {tg : Bool} {T : TypeId} {S : Nat → Prop} {w : World} {A : Option Addr} {n c : Nat} {l : List Entry} {x : ByteArray} (h : Sl tg T (entryE tg1) w S A n c l) (hn : n < 4611686018427387904)
    (hs : ∀ i j, i < j → j < n → strLt (l.getD i default).digest (l.getD j default).digest = true) :
    Calls Try.prog 63 #[.slice A n c, .string x, .func (.func 64) #[] #[]] w (RetFoundS Entry.digest l x w) := by
  have HL := Lib.hid h.len
  have HS := Lib.hid hs; clear hs
  go_enter Try.func63, Try.ntmps63
  go_wp2_with fail
  go_loopw [9, 10] (fun lo hi wr => ∃ a b : Nat, a ≤ b ∧ b ≤ n ∧ lo = .int .i64 a ∧ hi = .int .i64 b ∧ Hid (Below w.heap.size w wr) ∧ Hid ((∀ j, j < a → strLt (l.getD j default).digest x = true) ∧ (∀ j, b ≤ j → j < n → strLt (l.getD j default).digest x = false))) (fun lo hi _ => (intOf hi).toNat - (intOf lo).toNat)
  case atStart => exact ⟨0, n, Nat.zero_le _, Nat.le_refl _, rfl, rfl, Lib.hid (Below.refl _ _), Lib.hid ⟨fun j hj => by omega, fun j h1 h2 => by omega⟩⟩
  case round =>
    rename World => wo
    obtain ⟨a, b, hab, hbn, rfl, rfl, HB, HI⟩ := hrel
    by_cases hlt : a < b
    · obtain ⟨m, hm⟩ : ∃ m : Nat, m = (a + b) / 2 := ⟨_, rfl⟩
      have hm1 : ((a : Int) + (b : Int)) / 2 = (m : Int) := by omega
      have hma : a ≤ m := by omega
      have hmb : m < b := by omega
      have hmn : m < n := by omega
      clear hm
      go_upto_region 5 with (fail)
      clear hm1
      obtain ⟨bs, os, A3, n3, c3, rfl, _, hbl, _, _, _, z0, z1, z2, z3, _⟩ := (h.all HB.out).entry_at hmn
      have HV := Lib.hid (fun j => (⟨fun hj => by
          rcases Nat.lt_or_ge j m with h' | h'
          · exact HS.out j m h' hmn
          · omega, fun h1 h2 => HS.out m j h1 h2⟩ : (j < m → strLt (l.getD j default).digest (l.getD m default).digest = true) ∧ (m < j → j < n → strLt (l.getD m default).digest (l.getD j default).digest = true)))
      generalize hid : (l.getD m default).digest = y at *
      have HID := Lib.hid hid; clear hid
      go_wp2_with fail
      refine (byDigest_c (a := y)).mono ?_
      clear z0 z1 z2 z3
      rintro e w1 ⟨rfl, hb1⟩
      have HB1 := Lib.hid (HB.out.trans (hb1.mono HB.out.size)); clear hb1
      have hneg := cmpS_neg y x
      generalize cmpS y x = v at *
      by_cases hv : v < 0
      · have hyx := hneg.1 hv
        have HI2 : Hid ((∀ j, j < m + 1 → strLt (l.getD j default).digest x = true) ∧ (∀ j, b ≤ j → j < n → strLt (l.getD j default).digest x = false)) := Lib.hid ⟨fun j hj => by
          rcases Nat.lt_or_ge j m with h' | h'
          · exact strLt_trans ((HV.out j).1 h') hyx
          · obtain rfl : j = m := by omega
            rw [HID.out]; exact hyx, HI.out.2⟩
        clear hneg hyx
        go_wp2
        exact ⟨⟨m + 1, b, by omega, hbn, by go_num, rfl, HB1, HI2⟩, by simp [intOf]; omega⟩
      · have hyx : strLt y x = false := by
          cases hq : strLt y x with
          | false => rfl
          | true => exact absurd (hneg.2 hq) hv
        have HI2 : Hid ((∀ j, j < a → strLt (l.getD j default).digest x = true) ∧ (∀ j, m ≤ j → j < n → strLt (l.getD j default).digest x = false)) := Lib.hid ⟨HI.out.1, fun j h1 h2 => by
          rcases Nat.lt_or_ge m j with h' | h'
          · cases hq : strLt (l.getD j default).digest x with
            | false => rfl
            | true => have := strLt_trans ((HV.out j).2 h' h2) hq; rw [hyx] at this; cases this
          · obtain rfl : j = m := by omega
            rw [HID.out]; exact hyx⟩
        clear hneg hyx
        go_wp2
        exact ⟨⟨a, m, hma, by omega, rfl, rfl, HB1, HI2⟩, by simp [intOf]; omega⟩
    · obtain rfl : a = b := by omega
      by_cases hn' : a < n
      · obtain ⟨bs, os, A3, n3, c3, rfl, _, hbl, _, _, _, z0, z1, z2, z3, _⟩ := (h.all HB.out).entry_at hn'
        generalize hid : (l.getD a default).digest = y at *
        have HID := Lib.hid hid; clear hid
        go_wp2_with fail
        refine (byDigest_c (a := y)).mono ?_
        clear z0 z1 z2 z3
        rintro e w1 ⟨rfl, hb1⟩
        have HB1 := Lib.hid (HB.out.trans (hb1.mono HB.out.size)); clear hb1
        have hz := cmpS_zero y x
        generalize cmpS y x = v at *
        have HZ := Lib.hid hz; clear hz
        go_wp2
        refine bodyPost_ret (v := .tuple #[.int .i64 (a : Int), .bool (v == 0)]) (by simp [results, Try.results63, go_sem, *]; done) rfl ?_
        exact ⟨a, by have := HL.out; omega, by rw [HZ.out]; congr 4; rw [HID.out]; have := HL.out; simp; omega, HI.out.1, fun j h1 h2 => HI.out.2 j h1 (by have := HL.out; omega), HB1.out⟩
      · go_wp2
        refine bodyPost_ret (v := .tuple #[.int .i64 (a : Int), .bool false]) (by simp [results, Try.results63, go_sem, *]; done) rfl ?_
        exact ⟨a, by have := HL.out; omega, by rw [decide_eq_false (fun h => hn' (by have := HL.out; omega))], HI.out.1, fun j h1 h2 => HI.out.2 j h1 (by have := HL.out; omega), HB.out⟩

set_option maxHeartbeats 2000000 in
theorem byName_c {w : World} {a x : ByteArray} {p1 : Value} :
    Calls Try.prog 45 #[.agg #[.string a, p1], .string x] w (RetV (.int .i64 (cmpS a x)) w) := by
  go_enter Try.func45, Try.ntmps45
  go_wp2_with fail
  refine (strCompare_c (a := a) (b := x)).mono ?_
  rintro e w1 ⟨rfl, hb1⟩
  (obtain ⟨hc_w1, hf_w1⟩ := bcell hb1; have z_w1_0 : w.heap.size < w1.heap.size := (by have := hb1.size; first | omega | (simp at this; omega)))
  go_wp2
  go_ret
  exact ⟨by trivial, (by repeat' (first | (with_reducible exact Below.refl _ _) | (with_reducible refine Below.alloc ?_ ?_ _) | (with_reducible refine Below.drew ?_) | (with_reducible refine below_drewN ?_ _) | (with_reducible refine Below.setCell ?_ ?_ _) | (refine via ?_ (by with_reducible assumption) ?_) | (refine via ?_ (below_ext _ _) ?_) | go_size))⟩
set_option maxRecDepth 100000 in
set_option maxHeartbeats 4000000 in
theorem searchTag_c {tg : Bool} {T : TypeId} {S : Nat → Prop} {w : World} {A : Option Addr} {n c : Nat} {l : List Tag} {x : ByteArray} (h : Sl tg T tagE w S A n c l) (hn : n < 4611686018427387904)
    (hs : ∀ i j, i < j → j < n → strLt (l.getD i default).name (l.getD j default).name = true) :
    Calls Try.prog 44 #[.slice A n c, .string x, .func (.func 45) #[] #[]] w (RetFoundS Tag.name l x w) := by
  have HL := Lib.hid h.len
  have HS := Lib.hid hs; clear hs
  go_enter Try.func44, Try.ntmps44
  go_wp2_with fail
  go_loopw [9, 10] (fun lo hi wr => ∃ a b : Nat, a ≤ b ∧ b ≤ n ∧ lo = .int .i64 a ∧ hi = .int .i64 b ∧ Hid (Below w.heap.size w wr) ∧ Hid ((∀ j, j < a → strLt (l.getD j default).name x = true) ∧ (∀ j, b ≤ j → j < n → strLt (l.getD j default).name x = false))) (fun lo hi _ => (intOf hi).toNat - (intOf lo).toNat)
  case atStart => exact ⟨0, n, Nat.zero_le _, Nat.le_refl _, rfl, rfl, Lib.hid (Below.refl _ _), Lib.hid ⟨fun j hj => by omega, fun j h1 h2 => by omega⟩⟩
  case round =>
    rename World => wo
    obtain ⟨a, b, hab, hbn, rfl, rfl, HB, HI⟩ := hrel
    by_cases hlt : a < b
    · obtain ⟨m, hm⟩ : ∃ m : Nat, m = (a + b) / 2 := ⟨_, rfl⟩
      have hm1 : ((a : Int) + (b : Int)) / 2 = (m : Int) := by omega
      have hma : a ≤ m := by omega
      have hmb : m < b := by omega
      have hmn : m < n := by omega
      clear hm
      go_upto_region 5 with (fail)
      clear hm1
      obtain ⟨bs, os, rfl, _, hbl, _, _, z0, z1, _⟩ := (h.all HB.out).tag_at hmn
      have HV := Lib.hid (fun j => (⟨fun hj => by
          rcases Nat.lt_or_ge j m with h' | h'
          · exact HS.out j m h' hmn
          · omega, fun h1 h2 => HS.out m j h1 h2⟩ : (j < m → strLt (l.getD j default).name (l.getD m default).name = true) ∧ (m < j → j < n → strLt (l.getD m default).name (l.getD j default).name = true)))
      generalize hid : (l.getD m default).name = y at *
      have HID := Lib.hid hid; clear hid
      go_wp2_with fail
      refine (byName_c (a := y)).mono ?_
      clear z0 z1
      rintro e w1 ⟨rfl, hb1⟩
      have HB1 := Lib.hid (HB.out.trans (hb1.mono HB.out.size)); clear hb1
      have hneg := cmpS_neg y x
      generalize cmpS y x = v at *
      by_cases hv : v < 0
      · have hyx := hneg.1 hv
        have HI2 : Hid ((∀ j, j < m + 1 → strLt (l.getD j default).name x = true) ∧ (∀ j, b ≤ j → j < n → strLt (l.getD j default).name x = false)) := Lib.hid ⟨fun j hj => by
          rcases Nat.lt_or_ge j m with h' | h'
          · exact strLt_trans ((HV.out j).1 h') hyx
          · obtain rfl : j = m := by omega
            rw [HID.out]; exact hyx, HI.out.2⟩
        clear hneg hyx
        go_wp2
        exact ⟨⟨m + 1, b, by omega, hbn, by go_num, rfl, HB1, HI2⟩, by simp [intOf]; omega⟩
      · have hyx : strLt y x = false := by
          cases hq : strLt y x with
          | false => rfl
          | true => exact absurd (hneg.2 hq) hv
        have HI2 : Hid ((∀ j, j < a → strLt (l.getD j default).name x = true) ∧ (∀ j, m ≤ j → j < n → strLt (l.getD j default).name x = false)) := Lib.hid ⟨HI.out.1, fun j h1 h2 => by
          rcases Nat.lt_or_ge m j with h' | h'
          · cases hq : strLt (l.getD j default).name x with
            | false => rfl
            | true => have := strLt_trans ((HV.out j).2 h' h2) hq; rw [hyx] at this; cases this
          · obtain rfl : j = m := by omega
            rw [HID.out]; exact hyx⟩
        clear hneg hyx
        go_wp2
        exact ⟨⟨a, m, hma, by omega, rfl, rfl, HB1, HI2⟩, by simp [intOf]; omega⟩
    · obtain rfl : a = b := by omega
      by_cases hn' : a < n
      · obtain ⟨bs, os, rfl, _, hbl, _, _, z0, z1, _⟩ := (h.all HB.out).tag_at hn'
        generalize hid : (l.getD a default).name = y at *
        have HID := Lib.hid hid; clear hid
        go_wp2_with fail
        refine (byName_c (a := y)).mono ?_
        clear z0 z1
        rintro e w1 ⟨rfl, hb1⟩
        have HB1 := Lib.hid (HB.out.trans (hb1.mono HB.out.size)); clear hb1
        have hz := cmpS_zero y x
        generalize cmpS y x = v at *
        have HZ := Lib.hid hz; clear hz
        go_wp2
        refine bodyPost_ret (v := .tuple #[.int .i64 (a : Int), .bool (v == 0)]) (by simp [results, Try.results44, go_sem, *]; done) rfl ?_
        exact ⟨a, by have := HL.out; omega, by rw [HZ.out]; congr 4; rw [HID.out]; have := HL.out; simp; omega, HI.out.1, fun j h1 h2 => HI.out.2 j h1 (by have := HL.out; omega), HB1.out⟩
      · go_wp2
        refine bodyPost_ret (v := .tuple #[.int .i64 (a : Int), .bool false]) (by simp [results, Try.results44, go_sem, *]; done) rfl ?_
        exact ⟨a, by have := HL.out; omega, by rw [decide_eq_false (fun h => hn' (by have := HL.out; omega))], HI.out.1, fun j h1 h2 => HI.out.2 j h1 (by have := HL.out; omega), HB.out⟩

set_option maxHeartbeats 2000000 in
theorem Thing_c {tg tg1 : Bool} {S : Nat → Prop} {w : World} {A0 A1 A2 : Option Addr} {n0 c0 n1 c1 n2 c2 : Nat} {l : List Entry} {nx : Int} {x : ByteArray} (h : Sl tg 71 (entryE tg1) w S A1 n1 c1 l) (hn : n1 < 4611686018427387904)
    (hs : ∀ i j, i < j → j < n1 → strLt (l.getD i default).digest (l.getD j default).digest = true) :
    Calls Try.prog 41 #[.agg #[.slice A0 n0 c0, .slice A1 n1 c1, .slice A2 n2 c2, .int .i64 nx], .string x] w (RetFoundS Entry.digest l x w) := by
  have HC := Lib.hid (fun W (hW : Below w.heap.size w W) => searchEntry_c (w := W) (x := x) (h.all hW) hn hs); clear hs
  go_enter Try.func41, Try.ntmps41
  go_wp2_with fail
  refine (HC.out _ (by repeat' (first | (with_reducible exact Below.refl _ _) | (with_reducible refine Below.alloc ?_ ?_ _) | (with_reducible refine Below.drew ?_) | (with_reducible refine below_drewN ?_ _) | (with_reducible refine Below.setCell ?_ ?_ _) | (refine via ?_ (by with_reducible assumption) ?_) | (refine via ?_ (below_ext _ _) ?_) | go_size))).mono ?_
  rintro e w1 ⟨i, hi, rfl, h1, h2, hb1⟩
  have HH := Lib.hid (And.intro h1 h2); clear h1 h2
  (obtain ⟨hc_w1, hf_w1⟩ := bcell hb1; have z_w1_0 : w.heap.size < w1.heap.size := (by have := hb1.size; first | omega | (simp at this; omega)))
  go_wp2
  refine bodyPost_ret (v := .tuple #[.int .i64 (i : Int), .bool (decide (i < l.length ∧ (l.getD i default).digest = x))]) (by simp [results, Try.results41, go_sem, *]; done) rfl ?_
  exact ⟨i, hi, rfl, HH.out.1, HH.out.2, (by repeat' (first | (with_reducible exact Below.refl _ _) | (with_reducible refine Below.alloc ?_ ?_ _) | (with_reducible refine Below.drew ?_) | (with_reducible refine below_drewN ?_ _) | (with_reducible refine Below.setCell ?_ ?_ _) | (refine via ?_ (by with_reducible assumption) ?_) | (refine via ?_ (below_ext _ _) ?_) | go_size))⟩
end Go.Proofs.Ytipecejghioicaa
