/- What records make of rising lists: they rise still. -/
import Derived.Test.YtipecejghioicaaY14r
import Derived.Test.YtipecejghioicaaY11r
namespace Go.Silo
open Go Go.RowKit
section
variable {α κ : Type} {key : α → κ} {lt : κ → κ → Bool}
theorem set_same {β : Type} {l : List β} {p : Nat} {v : β} (h : l[p]? = some v) : l.set p v = l := by
  refine List.ext_getElem? (fun j => ?_)
  rw [List.getElem?_set]
  split
  · next e => subst e; rw [if_pos (List.getElem?_eq_some_iff.1 h).1, h]
  · rfl
theorem setL_rise [DecidableEq κ] [Inhabited α] (htr : ∀ a b c, lt a b = true → lt b c = true → lt a c = true) (hto : ∀ a b, lt a b = false → a ≠ b → lt b a = true) {l : List α} {x : α} {p : Nat} {is : Bool} (h : l.Pairwise (fun a b => lt (key a) (key b) = true))
    (hp : p = (l.takeWhile (fun y => lt (key y) (key x))).length) (his : is = decide (p < l.length ∧ key (l.getD p default) = key x)) : (setL p is x l).Pairwise (fun a b => lt (key a) (key b) = true) := by
  have hle : p ≤ l.length := by rw [hp]; exact (List.takeWhile_prefix _).length_le
  have htk : l.take p = l.takeWhile (fun y => lt (key y) (key x)) := by
    rw [hp]; exact (List.prefix_iff_eq_take.1 (List.takeWhile_prefix _)).symm
  have hlt : ∀ a ∈ l.take p, lt (key a) (key x) = true := fun a ha => by
    rw [htk] at ha
    exact (List.all_eq_true.1 (List.all_takeWhile (p := fun y => lt (key y) (key x)) (l := l))) a ha
  have hhd : ∀ c, l[p]? = some c → lt (key c) (key x) = false := fun c hc => by
    have hdw : l.drop p = l.dropWhile (fun y => lt (key y) (key x)) := by
      have h1 := List.takeWhile_append_dropWhile (p := fun y => lt (key y) (key x)) (l := l)
      have h2 := List.take_append_drop p l
      rw [htk] at h2
      exact List.append_cancel_left (h2.trans h1.symm)
    have hd0 : (l.dropWhile (fun y => lt (key y) (key x))).head? = some c := by rw [← hdw, List.head?_drop]; exact hc
    have hne : l.dropWhile (fun y => lt (key y) (key x)) ≠ [] := fun e => by rw [e] at hd0; cases hd0
    have h3 := List.head_dropWhile_not (fun y => lt (key y) (key x)) hne
    have h4 : (l.dropWhile (fun y => lt (key y) (key x))).head hne = c := by
      have := List.head?_eq_some_head hne
      rw [this] at hd0; injection hd0
    rw [h4] at h3; exact h3
  unfold setL
  cases is with
  | true =>
    obtain ⟨hpl, hk⟩ := of_decide_eq_true his.symm
    simp only [if_true]
    have hm : (l.set p x).map key = l.map key := by
      rw [List.map_set]
      refine set_same ?_
      rw [List.getElem?_map, List.getElem?_eq_getElem hpl]
      rw [List.getD_eq_getElem?_getD, List.getElem?_eq_getElem hpl] at hk
      exact congrArg some hk
    have h2 : (l.map key).Pairwise (fun a b => lt a b = true) := List.pairwise_map.2 h
    rw [← hm] at h2
    exact List.pairwise_map.1 h2
  | false =>
    simp only [Bool.false_eq_true, if_false]
    unfold insL
    have hsp := h
    rw [← List.take_append_drop p l, List.pairwise_append] at hsp
    obtain ⟨h1, h2, h3⟩ := hsp
    have hx : ∀ b ∈ l.drop p, lt (key x) (key b) = true := by
      cases hd : l.drop p with
      | nil => intro b hb; cases hb
      | cons c r =>
        have hc : l[p]? = some c := by have := List.head?_drop (l := l) (i := p); rw [hd] at this; exact this.symm
        have hpl : p < l.length := (List.getElem?_eq_some_iff.1 hc).1
        have hck : key c ≠ key x := fun e => by
          have := of_decide_eq_false his.symm
          exact this ⟨hpl, by rw [List.getD_eq_getElem?_getD, hc]; exact e⟩
        have hxc := hto _ _ (hhd c hc) hck
        intro b hb
        rcases List.mem_cons.1 hb with rfl | hb
        · exact hxc
        · rw [hd] at h2
          exact htr _ _ _ hxc ((List.pairwise_cons.1 h2).1 b hb)
    rw [List.pairwise_append]
    refine ⟨h1, ?_, fun a ha b hb => ?_⟩
    · rw [List.singleton_append, List.pairwise_cons]
      exact ⟨hx, h2⟩
    · rw [List.singleton_append] at hb
      rcases List.mem_cons.1 hb with rfl | hb
      · exact hlt a ha
      · exact h3 a ha b hb
theorem delL_rise {R : α → α → Prop} {l : List α} {p : Nat} (h : l.Pairwise R) : (delL p l).Pairwise R := by
  unfold delL
  refine h.sublist ?_
  have h2 := List.take_append_drop p l
  conv => rhs; rw [← h2]
  refine List.Sublist.append (List.Sublist.refl _) ?_
  rw [show l.drop (p + 1) = (l.drop p).drop 1 by rw [List.drop_drop]]
  exact List.drop_sublist _ _
end
end Go.Silo
namespace Go.Proofs.Ytipecejghioicaa
open Go.RowKit Go.Silo
theorem rise_index {α : Type} [Inhabited α] {R : α → α → Prop} {l : List α} : l.Pairwise R ↔ ∀ i j, i < j → j < l.length → R (l.getD i default) (l.getD j default) := by
  rw [List.pairwise_iff_getElem]
  have e : ∀ j (hj : j < l.length), l.getD j default = l[j] := fun j hj => by rw [List.getD_eq_getElem?_getD, List.getElem?_eq_getElem hj]; rfl
  constructor
  · intro h i j hij hj
    rw [e i (by omega), e j hj]; exact h i j (by omega) hj hij
  · intro h i j hi hj hij
    have := h i j hij hj
    rwa [e i hi, e j hj] at this
theorem ltI_tr (a b c : Int) (h1 : decide (a < b) = true) (h2 : decide (b < c) = true) : decide (a < c) = true := by simp at *; omega
theorem ltI_to (a b : Int) (h1 : decide (a < b) = false) (h2 : a ≠ b) : decide (b < a) = true := by simp at *; omega
theorem Sorted.doP {b : Book} {r : Record} (h : Sorted b) : Sorted (doP b r) := by
  unfold Proofs.Ytipecejghioicaa.doP
  split
  · exact ⟨h.s, h.t, h.g⟩
  · split
    · refine ⟨?_, h.t, h.g⟩
      have h1 : b.stripes.Pairwise (fun x y => decide (x.id < y.id) = true) := rise_index.2 (fun i j hij hj => decide_eq_true (h.s i j hij hj))
      have h2 := setL_rise (key := Stripe.id) (lt := fun a b => decide (a < b)) ltI_tr ltI_to (x := ⟨r.id, r.list.getD 0 0, r.list.getD 1 0, r.slots⟩) h1 (p := posS b.stripes r.id) rfl (is := isS b.stripes r.id) rfl
      intro i j hij hj
      exact of_decide_eq_true (rise_index.1 h2 i j hij hj)
    · split
      · refine ⟨h.s, ?_, h.g⟩
        have h1 : b.things.Pairwise (fun x y => strLt x.digest y.digest = true) := rise_index.2 h.t
        exact rise_index.1 (setL_rise (key := Entry.digest) (lt := strLt) (fun _ _ _ => strLt_trans) (fun _ _ => strLt_total) (x := ⟨r.digest, r.id, decide (r.kind = 5), r.list⟩) h1 (p := posB Entry.digest b.things r.digest) rfl (is := isB Entry.digest b.things r.digest) rfl)
      · refine ⟨h.s, h.t, ?_⟩
        have h1 : b.tags.Pairwise (fun x y => strLt x.name y.name = true) := rise_index.2 h.g
        exact rise_index.1 (setL_rise (key := Tag.name) (lt := strLt) (fun _ _ _ => strLt_trans) (fun _ _ => strLt_total) (x := ⟨r.name, r.digest⟩) h1 (p := posB Tag.name b.tags r.name) rfl (is := isB Tag.name b.tags r.name) rfl)
theorem Sorted.doR {b b' : Book} {r : Record} (h : Sorted b) (he : doR b r = some b') : Sorted b' := by
  unfold Proofs.Ytipecejghioicaa.doR at he
  split at he
  · split at he
    · injection he with he; subst he
      exact ⟨(rise_index (R := fun (x y : Stripe) => x.id < y.id)).1 (delL_rise ((rise_index (R := fun (x y : Stripe) => x.id < y.id)).2 h.s)), h.t, h.g⟩
    · cases he
  · split at he
    · split at he
      · injection he with he; subst he
        exact ⟨h.s, (rise_index (R := fun (x y : Entry) => strLt x.digest y.digest = true)).1 (delL_rise ((rise_index (R := fun (x y : Entry) => strLt x.digest y.digest = true)).2 h.t)), h.g⟩
      · cases he
    · split at he
      · split at he
        · injection he with he; subst he
          exact ⟨h.s, h.t, (rise_index (R := fun (x y : Tag) => strLt x.name y.name = true)).1 (delL_rise ((rise_index (R := fun (x y : Tag) => strLt x.name y.name = true)).2 h.g))⟩
        · cases he
      · injection he with he; subst he
        exact h.doP
end Go.Proofs.Ytipecejghioicaa
