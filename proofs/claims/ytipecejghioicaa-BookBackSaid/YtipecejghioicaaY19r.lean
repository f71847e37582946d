/- The book of a book's records is it (plain). -/
import Derived.Test.YtipecejghioicaaY18r
import Derived.Test.YtipecejghioicaaY9r
namespace Go.Proofs.Ytipecejghioicaa
open Go.RowKit Go.Silo
theorem takeWhile_all {α : Type} {p : α → Bool} {l : List α} (h : ∀ y ∈ l, p y = true) : (l.takeWhile p).length = l.length := by
  induction l with
  | nil => rfl
  | cons a l ih => rw [List.takeWhile_cons, if_pos (h a (List.mem_cons_self ..)), List.length_cons, List.length_cons, ih (fun y hy => h y (List.mem_cons_of_mem _ hy))]
theorem putS_end {l : List Stripe} {x : Stripe} (h : ∀ y ∈ l, y.id < x.id) : putS l x = l ++ [x] := by
  have hp : posS l x.id = l.length := takeWhile_all (fun y hy => decide_eq_true (h y hy))
  have hi : isS l x.id = false := by unfold isS; rw [hp]; exact decide_eq_false (fun h => Nat.lt_irrefl _ h.1)
  unfold putS setL
  rw [hi, hp]
  exact insL_end
theorem putB_end {α : Type} [Inhabited α] {key : α → ByteArray} {l : List α} {x : α} (h : ∀ y ∈ l, strLt (key y) (key x) = true) : putB key l x = l ++ [x] := by
  have hp : posB key l (key x) = l.length := takeWhile_all (fun y hy => h y hy)
  have hi : isB key l (key x) = false := by unfold isB; rw [hp]; exact decide_eq_false (fun h => Nat.lt_irrefl _ h.1)
  unfold putB setL
  rw [hi, hp]
  exact insL_end
/-- One record more. -/
def stepO (o : Option Book) (r : Record) : Option Book := o.bind (fun b => doR b r)
theorem foldDo_eq (l : List Record) : foldDo l = l.foldl stepO (some ⟨[], [], [], 0⟩) := rfl
theorem step_commit {b : Book} {x : Stripe} (h : ∀ y ∈ b.stripes, y.id < x.id) : stepO (some b) (commitR x) = some { b with stripes := b.stripes ++ [x], next := max b.next (x.id + 1) } := by
  show doR b (commitR x) = _
  unfold doR
  rw [if_neg (by show ¬ (2 : Int) = 3; decide), if_neg (by show ¬ (2 : Int) = 6; decide), if_neg (by show ¬ (2 : Int) = 8; decide)]
  unfold doP
  rw [if_neg (by show ¬ (2 : Int) = 1; decide), if_pos (show (commitR x).kind = 2 from rfl)]
  have := putS_end (x := x) h
  show some { b with stripes := putS b.stripes x, next := max b.next (x.id + 1) } = _
  rw [this]
theorem step_thing {b : Book} {x : Entry} (h : ∀ y ∈ b.things, strLt y.digest x.digest = true) : stepO (some b) (thingR x) = some { b with things := b.things ++ [x] } := by
  show doR b (thingR x) = _
  obtain ⟨dg, ln, man, li⟩ := x
  have hk : (thingR ⟨dg, ln, man, li⟩).kind = 4 ∨ (thingR ⟨dg, ln, man, li⟩).kind = 5 := by unfold thingR; cases man <;> simp
  have hm : decide ((thingR ⟨dg, ln, man, li⟩).kind = 5) = man := by unfold thingR; cases man <;> simp
  unfold doR
  rw [if_neg (by omega), if_neg (by omega), if_neg (by omega)]
  unfold doP
  rw [if_neg (by omega), if_neg (by omega), if_pos hk, hm]
  have := putB_end (key := Entry.digest) (x := (⟨dg, ln, man, li⟩ : Entry)) h
  show some { b with things := putB Entry.digest b.things ⟨dg, ln, man, li⟩ } = _
  rw [this]
theorem step_tag {b : Book} {x : Tag} (h : ∀ y ∈ b.tags, strLt y.name x.name = true) : stepO (some b) (tagR x) = some { b with tags := b.tags ++ [x] } := by
  show doR b (tagR x) = _
  unfold doR
  rw [if_neg (by show ¬ (7 : Int) = 3; decide), if_neg (by show ¬ (7 : Int) = 6; decide), if_neg (by show ¬ (7 : Int) = 8; decide)]
  unfold doP
  rw [if_neg (by show ¬ (7 : Int) = 1; decide), if_neg (by show ¬ (7 : Int) = 2; decide), if_neg (by show ¬ ((7 : Int) = 4 ∨ (7 : Int) = 5); decide)]
  have := putB_end (key := Tag.name) (x := x) h
  show some { b with tags := putB Tag.name b.tags x } = _
  rw [this]
theorem fold_commits : ∀ (xs : List Stripe) (b : Book), (b.stripes ++ xs).Pairwise (fun x y => x.id < y.id) → (xs.map commitR).foldl stepO (some b) = some { b with stripes := b.stripes ++ xs, next := xs.foldl (fun m x => max m (x.id + 1)) b.next }
  | [], b, _ => by simp
  | x :: xs, b, h => by
    have h1 : ∀ y ∈ b.stripes, y.id < x.id := fun y hy => (List.pairwise_append.1 h).2.2 y hy x (List.mem_cons_self ..)
    rw [List.map_cons, List.foldl_cons, step_commit h1, fold_commits xs _ (by rw [List.append_assoc]; exact h)]
    simp [List.append_assoc]
theorem fold_things : ∀ (xs : List Entry) (b : Book), (b.things ++ xs).Pairwise (fun x y => strLt x.digest y.digest = true) → (xs.map thingR).foldl stepO (some b) = some { b with things := b.things ++ xs }
  | [], b, _ => by simp
  | x :: xs, b, h => by
    have h1 : ∀ y ∈ b.things, strLt y.digest x.digest = true := fun y hy => (List.pairwise_append.1 h).2.2 y hy x (List.mem_cons_self ..)
    rw [List.map_cons, List.foldl_cons, step_thing h1, fold_things xs _ (by rw [List.append_assoc]; exact h)]
    simp [List.append_assoc]
theorem fold_tags : ∀ (xs : List Tag) (b : Book), (b.tags ++ xs).Pairwise (fun x y => strLt x.name y.name = true) → (xs.map tagR).foldl stepO (some b) = some { b with tags := b.tags ++ xs }
  | [], b, _ => by simp
  | x :: xs, b, h => by
    have h1 : ∀ y ∈ b.tags, strLt y.name x.name = true := fun y hy => (List.pairwise_append.1 h).2.2 y hy x (List.mem_cons_self ..)
    rw [List.map_cons, List.foldl_cons, step_tag h1, fold_tags xs _ (by rw [List.append_assoc]; exact h)]
    simp [List.append_assoc]
theorem fold_max : ∀ (xs : List Stripe) (m N : Int), m ≤ N → (∀ x ∈ xs, x.id + 1 ≤ N) → (m = N ∨ ∃ x ∈ xs, x.id + 1 = N) → xs.foldl (fun m x => max m (x.id + 1)) m = N
  | [], m, N, _, _, h => by rcases h with h | ⟨x, hx, _⟩; exact h; cases hx
  | x :: xs, m, N, hm, ha, h => by
    have hx := ha x (List.mem_cons_self ..)
    rw [List.foldl_cons]
    refine fold_max xs _ N (by omega) (fun y hy => ha y (List.mem_cons_of_mem _ hy)) ?_
    rcases h with h | ⟨y, hy, e⟩
    · exact .inl (by omega)
    · rcases List.mem_cons.1 hy with rfl | hy
      · exact .inl (by omega)
      · exact .inr ⟨y, hy, e⟩
theorem rise_chain {α : Type} [Inhabited α] {R : α → α → Prop} (htr : ∀ a b c, R a b → R b c → R a c) {l : List α} (h : ∀ k, 0 < k → k < l.length → R (l.getD (k - 1) default) (l.getD k default)) : l.Pairwise R := by
  refine rise_index.2 (fun i j hij hj => ?_)
  induction j with
  | zero => omega
  | succ j ih =>
    rcases Nat.lt_or_ge i j with h1 | h1
    · exact htr _ _ _ (ih h1 (by omega)) (by have := h (j + 1) (by omega) hj; simpa using this)
    · obtain rfl : i = j := by omega
      have := h (i + 1) (by omega) hj; simpa using this
theorem book_parts {s : Shape} {b : Book} (h : bookOk s b = true) : shapeOk s = true ∧ (0 ≤ b.next ∧ b.next ≤ 1073741824) ∧ stripesOk s b.next b.stripes = true ∧ (∀ k, k < b.things.length → thingAt s b.stripes b.things k = true) ∧ (∀ k, k < b.tags.length → tagAt b.tags k = true) := by
  unfold bookOk at h
  simp only [Bool.and_eq_true, decide_eq_true_eq] at h
  obtain ⟨h0, hn, hst, hth, htg⟩ := h
  refine ⟨h0, hn, hst, fun k hk => ?_, fun k hk => ?_⟩
  · unfold thingsOk at hth
    simp only [Bool.and_eq_true] at hth
    exact List.all_eq_true.1 hth.1 k (List.mem_range.2 hk)
  · unfold tagsOk at htg
    simp only [Bool.and_eq_true] at htg
    exact List.all_eq_true.1 htg.1 k (List.mem_range.2 hk)
/-- The book of a book's records is it. -/
theorem foldDo_lines {s : Shape} {b : Book} (h : bookOk s b = true) : foldDo (linesB b) = some b := by
  obtain ⟨_, ⟨hn0, _⟩, hst, hth, htg⟩ := book_parts h
  have hids := stripesOk_ids hst
  have hlt : ∀ k, k < b.stripes.length → (b.stripes.getD k default).id < b.next := fun k hk => (stripesOk_each hst k hk).2
  have hps : b.stripes.Pairwise (fun x y => x.id < y.id) := rise_index.2 hids
  have hpt : b.things.Pairwise (fun x y => strLt x.digest y.digest = true) := rise_chain (R := fun (x y : Entry) => strLt x.digest y.digest = true) (fun _ _ _ h1 h2 => strLt_trans h1 h2) (fun k h0 hk => by
    have := hth k hk
    unfold thingAt at this
    simp only [Bool.and_eq_true, Bool.or_eq_true, decide_eq_true_eq] at this
    rcases this.2.1 with h | h
    · omega
    · exact h)
  have hpg : b.tags.Pairwise (fun x y => strLt x.name y.name = true) := rise_chain (R := fun (x y : Tag) => strLt x.name y.name = true) (fun _ _ _ h1 h2 => strLt_trans h1 h2) (fun k h0 hk => by
    have := htg k hk
    unfold tagAt at this
    simp only [Bool.and_eq_true, Bool.or_eq_true, decide_eq_true_eq] at this
    rcases this.2 with h | h
    · omega
    · exact h)
  have hpre : (preB b).foldl stepO (some ⟨[], [], [], 0⟩) = some ⟨[], [], [], if leastB b.stripes < b.next then b.next else 0⟩ := by
    unfold preB
    split
    · next hl =>
      rw [List.foldl_cons, List.foldl_nil]
      unfold stepO
      rw [Option.bind_some]
      unfold doR
      rw [if_neg (show ¬ (1 : Int) = 3 by decide), if_neg (show ¬ (1 : Int) = 6 by decide), if_neg (show ¬ (1 : Int) = 8 by decide)]
      unfold doP
      rw [if_pos rfl]
      simp only
      congr 2
      omega
    · rfl
  have hmax : b.stripes.foldl (fun m x => max m (x.id + 1)) (if leastB b.stripes < b.next then b.next else 0) = b.next := by
    have hall : ∀ x ∈ b.stripes, x.id + 1 ≤ b.next := fun x hx => by
      obtain ⟨j, hj, e⟩ := List.getElem_of_mem hx
      have := hlt j hj
      rw [List.getD_eq_getElem?_getD, List.getElem?_eq_getElem hj] at this
      simp only [Option.getD_some] at this
      rw [← e]; omega
    split
    · exact fold_max _ _ _ (Int.le_refl _) hall (.inl rfl)
    · next hl =>
      refine fold_max _ _ _ hn0 hall ?_
      unfold leastB at hl
      split at hl
      · next h0 =>
        right
        have hm := mem_at (l := b.stripes) (j := b.stripes.length - 1) (d := default) (by omega)
        exact ⟨_, hm, by have := hall _ hm; omega⟩
      · left; omega
  rw [foldDo_eq]
  unfold linesB
  rw [List.foldl_append, List.foldl_append, List.foldl_append, hpre, fold_commits b.stripes _ (by simpa using hps), hmax, fold_things b.things _ (by simpa using hpt), fold_tags b.tags _ (by simpa using hpg)]
  simp
theorem lensF_ids {W : Int} {l : List Stripe} : ∀ {ys : List Int} {left : Int}, lensF W l ys left = true → ∀ id ∈ ys, ∃ y ∈ l, y.id = id
  | [], _, _, id, hm => by cases hm
  | y :: r, left, h, id, hm => by
    unfold lensF at h
    cases hf : findId l y with
    | none => rw [hf] at h; cases h
    | some z =>
      rw [hf] at h
      simp only at h
      split at h
      · rcases List.mem_cons.1 hm with rfl | hm
        · unfold findId at hf
          have h1 := List.find?_some hf
          exact ⟨z, List.mem_of_find?_eq_some hf, of_decide_eq_true h1⟩
        · exact lensF_ids h id hm
      · cases h
theorem manyX_le {s : Shape} {n : Int} (hs : shapeOk s = true) (h0 : 0 ≤ n) (h1 : n ≤ 2000) : manyX s n ≤ 2000 := by
  obtain ⟨k1, k2, m1, m2, s1, s2⟩ := shapeOk_K hs
  unfold manyX
  have hW : 1 ≤ s.K * s.size := by have := Int.mul_le_mul k1 s1 (by omega) (by omega); omega
  generalize s.K * s.size = W at *
  have : (n + W - 1) / W < 2001 := by
    refine Int.ediv_lt_of_lt_mul (by omega) ?_
    have : 2001 * 1 ≤ 2001 * W := Int.mul_le_mul_of_nonneg_left hW (by omega)
    omega
  omega
theorem stripe_slots {s : Shape} {x : Stripe} (h : stripeOk s x = true) : ∀ p ∈ x.place, badP p = false := fun p hp => by
  unfold stripeOk at h
  simp only [Bool.and_eq_true] at h
  have h1 := h.2.2
  simp only [Bool.not_eq_true', List.any_eq_false] at h1
  have h2 := h1 p hp
  have h3 : slotOk p = true := by simpa using h2
  unfold slotOk at h3
  have h4 := of_decide_eq_true h3
  unfold badP
  exact decide_eq_false (by omega)
/-- Each of a book's records may be. -/
theorem lines_ok {s : Shape} {b : Book} (h : bookOk s b = true) : ∀ r ∈ linesB b, recOk r = true := by
  obtain ⟨hsh, ⟨hn0, hn1⟩, hst, hth, htg⟩ := book_parts h
  obtain ⟨k1, k2, m1, m2, _, _⟩ := shapeOk_K hsh
  have hid : ∀ y ∈ b.stripes, 0 ≤ y.id ∧ y.id ≤ 1073741824 := fun y hy => by
    obtain ⟨j, hj, e⟩ := List.getElem_of_mem hy
    have := stripeOk_len (stripesOk_each hst j hj).1
    rw [List.getD_eq_getElem?_getD, List.getElem?_eq_getElem hj] at this
    simp only [Option.getD_some] at this
    rw [← e]; omega
  intro r hr
  unfold linesB at hr
  simp only [List.mem_append, List.mem_map] at hr
  rcases hr with ((hr | ⟨x, hx, rfl⟩) | ⟨x, hx, rfl⟩) | ⟨x, hx, rfl⟩
  · unfold preB at hr
    split at hr
    · next hl =>
      simp only [List.mem_singleton] at hr
      subst hr
      have hlb : 0 ≤ leastB b.stripes := by
        unfold leastB
        split
        · next h0 => have := hid _ (mem_at (l := b.stripes) (j := b.stripes.length - 1) (d := default) (by omega)); omega
        · omega
      have hq : numOk (b.next - 1) = true := by unfold numOk; exact decide_eq_true (by omega)
      unfold recOk
      simp only [show hasF 1 105 = true by decide, show hasF 1 110 = false by decide, show hasF 1 100 = false by decide, show hasF 1 108 = false by decide, show hasF 1 115 = true by decide, hq]
      simp [show placesOk [({ disk := 0, pos := 0 } : Slot)] = true by decide]
    · cases hr
  · obtain ⟨j, hj, e⟩ := List.getElem_of_mem hx
    have hso := (stripesOk_each hst j hj).1
    rw [List.getD_eq_getElem?_getD, List.getElem?_eq_getElem hj] at hso
    simp only [Option.getD_some] at hso
    rw [e] at hso
    obtain ⟨l1, l2, pl, i1, i2, g1, g2, _⟩ := stripeOk_len hso
    have hbp := stripe_slots hso
    obtain ⟨_, _, _, _, s1, s2⟩ := shapeOk_K hsh
    have hlen : x.len ≤ 1073741824 := by have := Int.mul_le_mul k2 s2 (by omega) (by omega); omega
    unfold commitR recOk
    simp only [show hasF 2 105 = true by decide, show hasF 2 110 = false by decide, show hasF 2 100 = false by decide, show hasF 2 108 = true by decide, show hasF 2 115 = true by decide]
    have q1 : numOk x.id = true := by unfold numOk; exact decide_eq_true (by omega)
    have q2 : listOk 2 [x.len, x.gen] = true := by
      unfold listOk
      have a1 : numOk x.len = true := by unfold numOk; exact decide_eq_true (by omega)
      have a2 : numOk x.gen = true := by unfold numOk; exact decide_eq_true (by omega)
      simp [a1, a2]
    have q3 : placesOk x.place = true := by
      unfold placesOk
      have a1 : (x.place.any badP) = false := List.any_eq_false.2 (fun p hp => by rw [hbp p hp]; decide)
      rw [a1, decide_eq_true (by omega : 1 ≤ x.place.length), decide_eq_true (by omega : x.place.length ≤ 14)]
      rfl
    rw [q1, q2, q3]
    simp
  · obtain ⟨j, hj, e⟩ := List.getElem_of_mem hx
    have hto := hth j hj
    unfold thingAt at hto
    rw [List.getD_eq_getElem?_getD, List.getElem?_eq_getElem hj] at hto
    simp only [Option.getD_some, Bool.and_eq_true, decide_eq_true_eq] at hto
    rw [e] at hto
    obtain ⟨d1, _, l0, l1, lm, lf⟩ := hto
    have hml := manyX_le hsh l0 l1
    have hids := lensF_ids lf
    have q1 : numOk x.len = true := by unfold numOk; exact decide_eq_true (by omega)
    have q4 : ∀ kd, (kd = 4 ∨ kd = 5) → listOk kd x.list = true := fun kd hkd => by
      unfold listOk
      have a1 : (x.list.any (fun n => !numOk n)) = false := List.any_eq_false.2 (fun n hn => by
        obtain ⟨y, hy, e⟩ := hids n hn
        have := hid y hy
        have : numOk n = true := by unfold numOk; rw [← e]; exact decide_eq_true (by omega)
        rw [this]; decide)
      rw [a1, decide_eq_true (by omega : x.list.length ≤ 2000), decide_eq_false (by omega : ¬ kd = 2)]
      rfl
    obtain ⟨dg, ln, man, li⟩ := x
    simp only at *
    unfold thingR recOk
    cases man with
    | false =>
      simp only [Bool.false_eq_true, if_false, show hasF 4 105 = true by decide, show hasF 4 110 = false by decide, show hasF 4 100 = true by decide, show hasF 4 108 = true by decide, show hasF 4 115 = false by decide]
      rw [q1, q4 4 (.inl rfl), decide_eq_true d1]
      simp
    | true =>
      simp only [if_true, show hasF 5 105 = true by decide, show hasF 5 110 = false by decide, show hasF 5 100 = true by decide, show hasF 5 108 = true by decide, show hasF 5 115 = false by decide]
      rw [q1, q4 5 (.inr rfl), decide_eq_true d1]
      simp
  · obtain ⟨j, hj, e⟩ := List.getElem_of_mem hx
    have hto := htg j hj
    unfold tagAt at hto
    rw [List.getD_eq_getElem?_getD, List.getElem?_eq_getElem hj] at hto
    simp only [Option.getD_some, Bool.and_eq_true, decide_eq_true_eq] at hto
    rw [e] at hto
    obtain ⟨⟨n1, n2, d1⟩, _⟩ := hto
    unfold tagR recOk
    simp only [show hasF 7 105 = false by decide, show hasF 7 110 = true by decide, show hasF 7 100 = true by decide, show hasF 7 108 = false by decide, show hasF 7 115 = false by decide]
    rw [decide_eq_true (⟨n1, n2⟩ : 1 ≤ x.name.size ∧ x.name.size ≤ 40), decide_eq_true d1]
    simp
end Go.Proofs.Ytipecejghioicaa
