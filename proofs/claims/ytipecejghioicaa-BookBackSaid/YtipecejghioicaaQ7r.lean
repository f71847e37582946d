/- book.stripes in plain: may a book's stripes be? -/
import Derived.Test.YtipecejghioicaaQ6r
import Derived.Test.YtipecejghioicaaE2r
import Derived.Deep.Cut
namespace Go.Proofs.Ytipecejghioicaa
open Go.RowKit Go.Silo

/-- May the stripe at place k be, behind those ahead? -/
def stripeAt (s : Shape) (nx : Int) (l : List Stripe) (k : Nat) : Bool := stripeOk s (l.getD k default) && (decide ((l.getD k default).id < nx) && (decide (k = 0) || decide ((l.getD (k - 1) default).id < (l.getD k default).id)))
/-- The slots that so many stripes' places name. -/
def slotsTo (l : List Stripe) (k : Nat) : List Slot := (l.take k).flatMap (fun x => x.place)
/-- Is no slot of a disk named twice? -/
def apartL (l : List Slot) : Bool := decide ((l.filter (fun p => decide (0 ≤ p.disk))).Nodup)
def stripesOk (s : Shape) (nx : Int) (l : List Stripe) : Bool := (List.range l.length).all (stripeAt s nx l) && apartL (slotsTo l l.length)
theorem stripesOk_bad {s : Shape} {nx : Int} {l : List Stripe} {k : Nat} (h : k < l.length) (hk : stripeAt s nx l k = false) : stripesOk s nx l = false := by
  unfold stripesOk
  have : (List.range l.length).all (stripeAt s nx l) = false := by
    rw [List.all_eq_false]
    exact ⟨k, List.mem_range.2 h, by simp [hk]⟩
  rw [this]; rfl
theorem slotsTo_succ {l : List Stripe} {k : Nat} (h : k < l.length) : slotsTo l (k + 1) = slotsTo l k ++ (l.getD k default).place := by
  unfold slotsTo
  rw [List.take_add_one, List.flatMap_append, List.getElem?_eq_getElem h, List.getD_eq_getElem?_getD, List.getElem?_eq_getElem h]
  simp
theorem slotsTo_le {l : List Stripe} (k : Nat) : ∃ r, slotsTo l l.length = slotsTo l k ++ r := by
  refine ⟨(l.drop k).flatMap (fun x => x.place), ?_⟩
  unfold slotsTo
  rw [List.take_length, ← List.flatMap_append, List.take_append_drop]
theorem apartL_snoc {P : List Slot} {q : Slot} (h : apartL P = true) (hq : 0 ≤ q.disk → q ∉ P) : apartL (P ++ [q]) = true := by
  unfold apartL at *
  have h1 := of_decide_eq_true h
  refine decide_eq_true ?_
  rw [List.filter_append]
  by_cases hd : 0 ≤ q.disk
  · rw [show [q].filter (fun p => decide (0 ≤ p.disk)) = [q] by simp [hd]]
    refine List.nodup_append.2 ⟨h1, by simp, fun a ha b hb e => ?_⟩
    rw [List.mem_singleton.1 hb] at e
    subst e
    exact hq hd (List.mem_filter.1 ha).1
  · rw [show [q].filter (fun p => decide (0 ≤ p.disk)) = [] by simp [hd], List.append_nil]
    exact h1
theorem stripesOk_twice {s : Shape} {nx : Int} {l : List Stripe} {k j : Nat} (h : k < l.length) (hj : j < (l.getD k default).place.length) (hd : 0 ≤ ((l.getD k default).place.getD j default).disk) (hm : (l.getD k default).place.getD j default ∈ slotsTo l k ++ (l.getD k default).place.take j) : stripesOk s nx l = false := by
  have hnd : apartL (slotsTo l l.length) = false := by
    obtain ⟨r, hr⟩ := slotsTo_le (l := l) (k + 1)
    unfold apartL
    refine decide_eq_false (fun hn => ?_)
    rw [hr, slotsTo_succ h, List.filter_append] at hn
    have h1 := (List.nodup_append.1 hn).1
    generalize (l.getD k default).place = L at *
    have hL : L = L.take j ++ L.getD j default :: L.drop (j + 1) := by
      rw [List.getD_eq_getElem?_getD, List.getElem?_eq_getElem hj, Option.getD_some, ← List.drop_eq_getElem_cons hj, List.take_append_drop]
    rw [hL, ← List.append_assoc, List.filter_append, List.filter_cons] at h1
    rw [if_pos (by simpa using hd)] at h1
    exact (List.nodup_append.1 h1).2.2 _ (List.mem_filter.2 ⟨hm, by simpa using hd⟩) _ (List.mem_cons_self ..) rfl
  unfold stripesOk
  rw [hnd]
  simp
theorem stripesOk_all {s : Shape} {nx : Int} {l : List Stripe} (h : ∀ k, k < l.length → stripeAt s nx l k = true) (hn : apartL (slotsTo l l.length) = true) : stripesOk s nx l = true := by
  unfold stripesOk
  rw [List.all_eq_true.2 (fun k hk => h k (List.mem_range.1 hk)), hn]; rfl
/-- Slots as keys. -/
def keysS (l : List Slot) : List Value := l.map (fun p => .agg #[.int .i64 p.disk, .int .i64 p.pos])
theorem mem_keysS {l : List Slot} {p : Slot} : Value.agg #[.int .i64 p.disk, .int .i64 p.pos] ∈ keysS l ↔ p ∈ l := by
  unfold keysS
  constructor
  · intro h
    obtain ⟨q, hq, e⟩ := List.mem_map.1 h
    injection e with e
    have e1 : [Value.int .i64 q.disk, Value.int .i64 q.pos] = [Value.int .i64 p.disk, Value.int .i64 p.pos] := by simpa using congrArg Array.toList e
    injection e1 with e2 e3
    injection e3 with e3 _
    injection e2 with _ e2
    injection e3 with _ e3
    obtain rfl : q = p := by cases q; cases p; simp_all
    exact hq
  · intro h; exact List.mem_map.2 ⟨p, h, rfl⟩
end Go.Proofs.Ytipecejghioicaa
