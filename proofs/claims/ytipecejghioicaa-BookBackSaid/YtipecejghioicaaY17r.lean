/- The book of records, one by one: what stays within bounds. -/
import Derived.Test.YtipecejghioicaaY15r
-- from Y16r
namespace Go.Proofs.Ytipecejghioicaa
open Go.RowKit Go.Silo
theorem recOk_facts {r : Record} (h : recOk r = true) : (1 ≤ r.kind ∧ r.kind ≤ 8) ∧ (0 ≤ r.id ∧ r.id ≤ 1073741824) ∧ (r.kind = 2 → r.list.length = 2) ∧ (r.list.length ≤ 2000 ∧ r.slots.length ≤ 14) := by
  unfold recOk at h
  simp only [Bool.and_eq_true, decide_eq_true_eq] at h
  obtain ⟨hk, hi, _, _, hl, hs, hi0, _, _, hl0, hs0⟩ := h
  refine ⟨hk, ?_, fun h2 => ?_, ?_, ?_⟩
  · cases hq : hasF r.kind 105 with
    | true => rw [hq] at hi; simp only [Bool.not_true, Bool.false_or] at hi; unfold numOk at hi; exact of_decide_eq_true hi
    | false => rw [hq] at hi0; simp only [Bool.false_or] at hi0; have := of_decide_eq_true hi0; omega
  · rw [h2, show hasF 2 108 = true by decide] at hl
    simp only [Bool.not_true, Bool.false_or] at hl
    unfold listOk at hl
    simp only [Bool.and_eq_true] at hl
    have := hl.1
    simpa using this
  · cases hq : hasF r.kind 108 with
    | true =>
      rw [hq] at hl; simp only [Bool.not_true, Bool.false_or] at hl
      unfold listOk at hl
      simp only [Bool.and_eq_true] at hl
      exact of_decide_eq_true hl.2.1
    | false => rw [hq] at hl0; simp only [Bool.false_or] at hl0; have := of_decide_eq_true hl0; omega
  · cases hq : hasF r.kind 115 with
    | true =>
      rw [hq] at hs; simp only [Bool.not_true, Bool.false_or] at hs
      unfold placesOk at hs
      simp only [Bool.and_eq_true] at hs
      exact of_decide_eq_true hs.2.1
    | false => rw [hq] at hs0; simp only [Bool.false_or] at hs0; have := of_decide_eq_true hs0; omega
theorem DoAll_c {tg : Bool} {S : Nat → Prop} {X : Nat → Option Obj} {β bb : Nat} {w : World} {A0 : Option Addr} {n0 c0 : Nat} {A1 : Option Addr} {n1 c1 : Nat} {A2 : Option Addr} {n2 c2 : Nat} {A4 A5 : Option Addr} {n4 c4 n5 c5 : Nat} {b : Book} {r : Record} (hob : OB X β bb A0 n0 c0 A1 n1 c1 A2 n2 c2 b w) (hs : Sorted b)
    (hn : n0 ≤ 999999 ∧ n1 ≤ 999999 ∧ n2 ≤ 999999) (hnx : b.next ≤ 1073741825 ∧ -1 ≤ b.next) (hst : StrOk r.name ∧ StrOk r.digest) (hl : Sl tg 3 intE w S A4 n4 c4 r.list) (hsl : Sl tg 67 slotE w S A5 n5 c5 r.slots) (hS : ∀ k, S k → k < β) (hln : n4 ≤ 100000000 ∧ n5 ≤ 100000000) (hok : recOk r = true) :
    Calls Try.prog 20 #[.pointer (some ⟨bb, 0, none⟩), .agg #[.int .i64 r.kind, .int .i64 r.id, .string r.name, .string r.digest, .slice A4 n4 c4, .slice A5 n5 c5]] w (RetDoE X β bb (doR b r) b w) := by
  obtain ⟨⟨k1, k2⟩, hid, hl2, _⟩ := recOk_facts hok
  by_cases ho : r.kind = 3 ∨ r.kind = 6 ∨ r.kind = 8
  · exact DoOut_c hob hs hn hnx hid hst hl hsl hS hln ho
  · have hi : r.kind = 1 ∨ (r.kind = 2 ∧ r.list.length = 2) ∨ r.kind = 4 ∨ r.kind = 5 ∨ r.kind = 7 := by
      rcases (by omega : r.kind = 1 ∨ r.kind = 2 ∨ r.kind = 4 ∨ r.kind = 5 ∨ r.kind = 7) with h | h | h | h | h
      · exact .inl h
      · exact .inr (.inl ⟨h, hl2 h⟩)
      · exact .inr (.inr (.inl h))
      · exact .inr (.inr (.inr (.inl h)))
      · exact .inr (.inr (.inr (.inr h)))
    have hd : doR b r = some (doP b r) := by
      unfold doR
      rw [if_neg (fun h => ho (.inl h)), if_neg (fun h => ho (.inr (.inl h))), if_neg (fun h => ho (.inr (.inr h)))]
    refine (Do_c hob hs hn hnx hid hst hl hsl hS hln hi).mono ?_
    rintro e w' ⟨h1, h2, h3⟩
    rw [hd]
    exact ⟨h1, h2, h3⟩
set_option maxRecDepth 100000 in
set_option maxHeartbeats 2000000 in
theorem ofBad_c {tg : Bool} {S : Nat → Prop} {w : World} {A4 A5 : Option Addr} {n4 c4 n5 c5 : Nat} {r : Record} (hl : Sl tg 3 intE w S A4 n4 c4 r.list) (hs : Sl tg 67 slotE w S A5 n5 c5 r.slots) :
    Calls Try.prog 16 #[.agg #[.int .i64 r.kind, .int .i64 r.id, .string r.name, .string r.digest, .slice A4 n4 c4, .slice A5 n5 c5]] w (RetV (.bool (!recOk r)) w) := by
  have HC := Lib.hid (fun W (hW : Below w.heap.size w W) => recMay_c (w := W) (r := r) (hl.all hW) (hs.all hW))
  generalize recOk r = q at *
  go_enter Try.func16, Try.ntmps16
  go_wp2_with fail
  refine (HC.out _ (by repeat' (first | (with_reducible exact Below.refl _ _) | (with_reducible refine Below.alloc ?_ ?_ _) | (with_reducible refine Below.drew ?_) | (with_reducible refine below_drewN ?_ _) | (with_reducible refine Below.setCell ?_ ?_ _) | (refine via ?_ (by with_reducible assumption) ?_) | (refine via ?_ (below_ext _ _) ?_) | go_size))).mono ?_
  rintro e w1 ⟨rfl, hb1⟩
  go_wp2
  go_ret
  exact ⟨rfl, (by repeat' (first | (with_reducible exact Below.refl _ _) | (with_reducible refine Below.alloc ?_ ?_ _) | (with_reducible refine Below.drew ?_) | (with_reducible refine below_drewN ?_ _) | (with_reducible refine Below.setCell ?_ ?_ _) | (refine via ?_ (by with_reducible assumption) ?_) | (refine via ?_ (below_ext _ _) ?_) | go_size))⟩
set_option maxHeartbeats 1000000 in
theorem IndexFunc_rec {tg : Bool} {T : TypeId} {S : Nat → Prop} {w : World} {A : Option Addr} {n c : Nat} {xs : List Record} (h : Sl tg T (recordE tg) w S A n c xs) :
    Calls Try.prog 36 #[.slice A n c, .func (.func 16) #[] #[]] w (RetV (.int .i64 (idxOf (fun r => !recOk r) xs)) w) := by
  have HL := Lib.hid h.len
  have hcap : n ≤ 9223372036854775807 := Nat.le_trans h.le h.cap
  go_enter Try.func36, Try.ntmps36
  go_wp2
  go_loopw [5, 8] (fun _ i wr => ∃ k : Nat, k ≤ n ∧ i = .int .i64 k ∧ Below w.heap.size w wr ∧ Hid (∀ j, j < k → (!recOk (xs.getD j default)) = false)) (fun _ i _ => n - (intOf i).toNat)
  case atStart => exact ⟨0, Nat.zero_le _, rfl, Below.refl _ _, Lib.hid (fun j hj => by omega)⟩
  case round =>
    obtain ⟨k, hk, rfl, hB, he⟩ := hrel
    by_cases hlt : k < n
    · obtain ⟨b, off, A4, n4, c4, A5, n5, c5, rfl, hS, hbl, g1, g2, g3, g4, hl4, hs5, hc0, hc1, hc2, hc3, hc4, hc5, _⟩ := (h.all hB).record_at hlt
      have hcall := ofBad_c (r := xs.getD k default) hl4 hs5
      generalize hx : xs.getD k default = x at *
      have HX := Lib.hid hx; clear hx
      have HB := Lib.hid hB; clear hB
      have HC := Lib.hid hcall; clear hcall
      go_wp2_with fail
      refine HC.out.mono ?_
      rintro e w2 ⟨rfl, hb2⟩
      have HB2 := Lib.hid hb2; clear hb2
      clear hl4 hs5
      cases hpx : (!recOk x) with
      | true =>
        have HF : Hid (idxOf (fun r => !recOk r) xs = (k : Int)) := Lib.hid (idxOf_some (d := default) (by have := HL.out; omega) (by rw [HX.out]; exact hpx) he.out)
        clear hpx
        go_wp2
        go_ret
        exact ⟨by rw [HF.out]; rfl, via HB.out HB2.out (Nat.le_refl _)⟩
      | false =>
        have HF : Hid (∀ j, j < k + 1 → (!recOk (xs.getD j default)) = false) := Lib.hid (fun j hj => by
          by_cases hjk : j = k
          · subst hjk; rw [HX.out]; exact hpx
          · exact he.out j (by omega))
        clear hpx
        go_wp2
        go_roundw
        case rel => exact ⟨k + 1, by omega, by go_num, via HB.out HB2.out (Nat.le_refl _), HF⟩
        case measure => simp [intOf]; omega
    · have HF : Hid (idxOf (fun r => !recOk r) xs = -1) := Lib.hid (idxOf_none (d := default) fun j hj => he.out j (by have := HL.out; omega))
      go_wp2
      go_ret
      exact ⟨by rw [HF.out]; rfl, hB⟩

set_option maxHeartbeats 400000 in
theorem ContainsFunc_rec {tg : Bool} {T : TypeId} {S : Nat → Prop} {w : World} {A : Option Addr} {n c : Nat} {xs : List Record} (h : Sl tg T (recordE tg) w S A n c xs) :
    Calls Try.prog 19 #[.slice A n c, .func (.func 16) #[] #[]] w (RetV (.bool (xs.any (fun r => !recOk r))) w) := by
  have HQ := Lib.hid (idxOf_any (xs := xs) (p := fun r => !recOk r))
  go_enter Try.func19, Try.ntmps19
  go_wp2_with fail
  refine (IndexFunc_rec h).mono ?_
  rintro e w2 ⟨rfl, hb2⟩
  generalize hi : idxOf (fun r => !recOk r) xs = i at *
  go_wp2
  all_goals
    go_ret
    refine ⟨?_, hb2⟩
    rw [HQ.out]
    first | rfl | (congr 2; simp_all; done) | (congr 2; simp_all; omega)

end Go.Proofs.Ytipecejghioicaa
namespace Go.Silo
open Go Go.RowKit
theorem sum_sub {a b : List Nat} (h : a.Sublist b) : a.sum ≤ b.sum := by
  induction h with
  | slnil => exact Nat.le_refl _
  | cons a _ ih => rw [List.sum_cons]; omega
  | cons_cons a _ ih => rw [List.sum_cons, List.sum_cons]; omega
theorem sum_setL {α : Type} {f : α → Nat} {l : List α} {p : Nat} {is : Bool} {x : α} : ((setL p is x l).map f).sum ≤ (l.map f).sum + f x := by
  have hd := List.take_append_drop p l
  have hs : (l.map f).sum = ((l.take p).map f).sum + ((l.drop p).map f).sum := by
    conv => lhs; rw [← hd]
    rw [List.map_append, List.sum_append]
  unfold setL
  cases is with
  | true =>
    simp only [if_true]
    rw [List.set_eq_take_append_cons_drop]
    split
    · have h1 : ((l.drop (p + 1)).map f).sum ≤ ((l.drop p).map f).sum := by
        refine sum_sub (List.Sublist.map f ?_)
        rw [show l.drop (p + 1) = (l.drop p).drop 1 by rw [List.drop_drop]]
        exact List.drop_sublist _ _
      rw [List.map_append, List.sum_append, List.map_cons, List.sum_cons, hs]
      omega
    · omega
  | false =>
    simp only [Bool.false_eq_true, if_false]
    unfold insL
    rw [List.map_append, List.sum_append, List.map_append, List.sum_append, hs]
    simp
    omega
theorem delL_sub {α : Type} {l : List α} {p : Nat} : (delL p l).Sublist l := by
  unfold delL
  have h2 := List.take_append_drop p l
  conv => rhs; rw [← h2]
  refine List.Sublist.append (List.Sublist.refl _) ?_
  rw [show l.drop (p + 1) = (l.drop p).drop 1 by rw [List.drop_drop]]
  exact List.drop_sublist _ _
end Go.Silo
namespace Go.Proofs.Ytipecejghioicaa
open Go.RowKit Go.Silo
/-- The book of records, if it may be made. -/
def foldDo (l : List Record) : Option Book := l.foldl (fun o r => o.bind (fun b => doR b r)) (some ⟨[], [], [], 0⟩)
theorem foldDo_snoc (l : List Record) (r : Record) : foldDo (l ++ [r]) = (foldDo l).bind (fun b => doR b r) := by simp [foldDo, List.foldl_append]
theorem foldl_none (l : List Record) : l.foldl (fun (o : Option Book) r => o.bind (fun b => doR b r)) none = none := by
  induction l with
  | nil => rfl
  | cons a l ih => exact ih
theorem foldDo_none {l : List Record} {k : Nat} (h : foldDo (l.take k) = none) : foldDo l = none := by
  have h2 := List.take_append_drop k l
  rw [← h2]
  unfold foldDo at *
  rw [List.foldl_append, h]
  exact foldl_none _
/-- What stays within bounds behind k records whose lists have t numbers. -/
structure BInv (b : Book) (k t : Nat) : Prop where
  so : Sorted b
  ls : b.stripes.length ≤ k
  lt : b.things.length ≤ k
  lg : b.tags.length ≤ k
  nx : 0 ≤ b.next ∧ b.next ≤ 1073741825
  ss : (b.stripes.map (fun y => y.place.length)).sum ≤ 14 * k
  st : (b.things.map (fun y => y.list.length)).sum ≤ t
theorem BInv.start : BInv ⟨[], [], [], 0⟩ 0 0 := ⟨⟨fun i j _ h => by simp at h, fun i j _ h => by simp at h, fun i j _ h => by simp at h⟩, Nat.le_refl _, Nat.le_refl _, Nat.le_refl _, by simp, by simp, by simp⟩
theorem BInv.step {b b' : Book} {k t : Nat} {r : Record} (h : BInv b k t) (hr : recOk r = true) (he : doR b r = some b') : BInv b' (k + 1) (t + r.list.length) := by
  obtain ⟨_, ⟨hi1, hi2⟩, _, _, hsl⟩ := recOk_facts hr
  have hso := h.so.doR he
  obtain ⟨_, h1, h2, h3, ⟨h4, h4'⟩, h5, h6⟩ := h
  unfold doR at he
  split at he
  · split at he
    · injection he with he; subst he
      exact ⟨hso, Nat.le_trans (delL_sub.length_le) (by omega), by simp only; omega, by simp only; omega, ⟨h4, h4'⟩, Nat.le_trans (sum_sub (List.Sublist.map _ delL_sub)) (by omega), by simp only; omega⟩
    · cases he
  · split at he
    · split at he
      · injection he with he; subst he
        exact ⟨hso, by simp only; omega, Nat.le_trans (delL_sub.length_le) (by omega), by simp only; omega, ⟨h4, h4'⟩, by simp only; omega, Nat.le_trans (sum_sub (List.Sublist.map _ delL_sub)) (by omega)⟩
      · cases he
    · split at he
      · split at he
        · injection he with he; subst he
          exact ⟨hso, by simp only; omega, by simp only; omega, Nat.le_trans (delL_sub.length_le) (by omega), ⟨h4, h4'⟩, by simp only; omega, by simp only; omega⟩
        · cases he
      · injection he with he; subst he
        revert hso
        unfold doP
        split
        · intro hso
          exact ⟨hso, by simp only; omega, by simp only; omega, by simp only; omega, by simp only; omega, by simp only; omega, by simp only; omega⟩
        · split
          · intro hso
            refine ⟨hso, ?_, by simp only; omega, by simp only; omega, by simp only; omega, ?_, by simp only; omega⟩
            · have := setL_len (is := isS b.stripes r.id) (x := (⟨r.id, r.list.getD 0 0, r.list.getD 1 0, r.slots⟩ : Stripe)) (posS_le b.stripes r.id)
              show (putS b.stripes _).length ≤ _
              unfold putS; simp only at *; omega
            · have := sum_setL (f := fun (y : Stripe) => y.place.length) (l := b.stripes) (p := posS b.stripes r.id) (is := isS b.stripes r.id) (x := (⟨r.id, r.list.getD 0 0, r.list.getD 1 0, r.slots⟩ : Stripe))
              show ((putS b.stripes _).map _).sum ≤ _
              unfold putS; simp only at *; omega
          · split
            · intro hso
              refine ⟨hso, by simp only; omega, ?_, by simp only; omega, ⟨h4, h4'⟩, by simp only; omega, ?_⟩
              · have := setL_len (is := isB Entry.digest b.things r.digest) (x := (⟨r.digest, r.id, decide (r.kind = 5), r.list⟩ : Entry)) (posB_le Entry.digest b.things r.digest)
                show (putB Entry.digest b.things _).length ≤ _
                unfold putB; simp only at *; omega
              · have := sum_setL (f := fun (y : Entry) => y.list.length) (l := b.things) (p := posB Entry.digest b.things r.digest) (is := isB Entry.digest b.things r.digest) (x := (⟨r.digest, r.id, decide (r.kind = 5), r.list⟩ : Entry))
                show ((putB Entry.digest b.things _).map _).sum ≤ _
                unfold putB; simp only at *; omega
            · intro hso
              refine ⟨hso, by simp only; omega, by simp only; omega, ?_, ⟨h4, h4'⟩, by simp only; omega, by simp only; omega⟩
              have := setL_len (is := isB Tag.name b.tags r.name) (x := (⟨r.name, r.digest⟩ : Tag)) (posB_le Tag.name b.tags r.name)
              show (putB Tag.name b.tags _).length ≤ _
              unfold putB; simp only at *; omega
theorem BInv.few {b : Book} {k t : Nat} (h : BInv b k t) (hk : k ≤ 4000) (ht : t ≤ 1000000) : Few b := by
  refine ⟨Nat.le_trans h.ls hk, ?_, ?_⟩
  · unfold slotsTo; rw [List.take_length, List.length_flatMap]; have := h.ss; omega
  · unfold namedTo; rw [List.take_length, List.length_flatMap]; have := h.st; omega
end Go.Proofs.Ytipecejghioicaa
