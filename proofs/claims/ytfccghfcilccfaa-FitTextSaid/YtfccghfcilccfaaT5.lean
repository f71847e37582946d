/- slices.Insert and slices.BinarySearch at []int, read in this work's words. -/
import Derived.Ground.Names2Prog
import Derived.Shelf.Slices.SearchI
import Derived.Shelf.Slices.Empties
import Derived.Shelf.Spec.SlicesInsert
import Derived.Shelf.Spec.SlicesInsertGrow
import Derived.Test.YtfccghfcilccfaaT2
import Derived.Test.YtfccghfcilccfaaT4
-- from T3
namespace Go.Proofs
open Go.Shelf Go.Lib Go.RowKit

def Try.lays25_ren : Go.Shelf.Ren := ⟨fun | 25 => 123 | 31 => 165 | 32 => 166 | 37 => 190 | n => n, fun | 3 => 3 | 4 => 4 | 22 => 52 | 40 => 161 | n => n, fun n => n⟩
theorem Try.lays25 : Lays2.n25 Try.prog Try.lays25_ren where
  mixed := by kernel_rfl
  f25 := Try.func123.trans (congrArg some (by kernel_rfl))
  f31 := Try.func165.trans (congrArg some (by kernel_rfl))
  f32 := Try.func166.trans (congrArg some (by kernel_rfl))
  f37 := Try.func190.trans (congrArg some (by kernel_rfl))
  t0 := Try.underlying0
  a0 := Try.isAgg0
  z0 := Try.sizeOf0
  v0 := Try.zeroValue0
  t3 := Try.underlying3
  a3 := Try.isAgg3
  z3 := Try.sizeOf3
  v3 := Try.zeroValue3
  t4 := Try.underlying4
  a4 := Try.isAgg4
  z4 := Try.sizeOf4
  v4 := Try.zeroValue4
  t22 := Try.underlying52
  a22 := Try.isAgg52
  z22 := Try.sizeOf52
  v22 := Try.zeroValue52
  t40 := Try.underlying161
  a40 := Try.isAgg161
  z40 := Try.sizeOf161
  v40 := Try.zeroValue161

def Try.lays21_ren : Go.Shelf.Ren := ⟨fun | 21 => 124 | 27 => 167 | 28 => 168 | 35 => 191 | 39 => 212 | n => n, fun | 3 => 3 | 4 => 4 | 22 => 52 | n => n, fun n => n⟩
theorem Try.lays21 : Lays2.n21 Try.prog Try.lays21_ren where
  mixed := by kernel_rfl
  f21 := Try.func124.trans (congrArg some (by kernel_rfl))
  f27 := Try.func167.trans (congrArg some (by kernel_rfl))
  f28 := Try.func168.trans (congrArg some (by kernel_rfl))
  f35 := Try.func191.trans (congrArg some (by kernel_rfl))
  f39 := Try.func212.trans (congrArg some (by kernel_rfl))
  t0 := Try.underlying0
  a0 := Try.isAgg0
  z0 := Try.sizeOf0
  v0 := Try.zeroValue0
  t3 := Try.underlying3
  a3 := Try.isAgg3
  z3 := Try.sizeOf3
  v3 := Try.zeroValue3
  t4 := Try.underlying4
  a4 := Try.isAgg4
  z4 := Try.sizeOf4
  v4 := Try.zeroValue4
  t22 := Try.underlying52
  a22 := Try.isAgg52
  z22 := Try.sizeOf52
  v22 := Try.zeroValue52
  i3 := by kernel_rfl
end Go.Proofs
namespace Go.Proofs.Ytfccghfcilccfaa
open Go.RowKit Go.Silo Go.Lib

theorem Sl.ints_of {T : TypeId} {w : World} {S : Nat → Prop} {b off n c : Nat} {xs : List Int} (hl : xs.length = n) (hc : n ≤ c) (hm : c ≤ 9223372036854775807) (hS : S b) (hlt : b < w.heap.size) (ht : ∃ k, w.shape? b = some (T, k))
    (h : ∀ j, j < n → w.cell? ⟨b, off + j, none⟩ = some (.int .i64 (xs.getD j 0)) ∧ w.frozen? ⟨b, off + j, none⟩ = false) (hI : ∀ x ∈ xs, I64 x) : Sl true T intE w S (some ⟨b, off, none⟩) n c xs := by
  refine ⟨hl, hc, hm, fun hn => ⟨b, off, rfl, hS, hlt, fun _ => ht, fun k x hx => ⟨[.int .i64 x], ⟨rfl, hI x (List.mem_of_getElem? hx)⟩, fun j v hj => ?_⟩⟩⟩
  have hk := (List.getElem?_eq_some_iff.1 hx).1
  match j, hj with
  | 0, hj =>
    simp at hj; subst hj
    have := h k (by omega)
    rw [List.getD_eq_getElem?_getD, hx] at this
    show w.cell? ⟨b, off + k * 1 + 0, none⟩ = _ ∧ w.frozen? ⟨b, off + k * 1 + 0, none⟩ = _
    rw [Nat.mul_one, Nat.add_zero]
    exact this

/-- The list with x put in at place i. -/
def insAt (i : Nat) (x : Int) (l : List Int) : List Int := l.take i ++ x :: l.drop i
theorem insAt_len {i : Nat} {x : Int} {l : List Int} (h : i ≤ l.length) : (insAt i x l).length = l.length + 1 := by simp [insAt]; omega
theorem insAt_getD {i : Nat} {x : Int} {l : List Int} (h : i ≤ l.length) (j : Nat) : (insAt i x l).getD j 0 = if j < i then l.getD j 0 else if j = i then x else l.getD (j - 1) 0 := by
  unfold insAt
  simp only [List.getD_eq_getElem?_getD]
  have ht : (l.take i).length = i := by simp; omega
  by_cases h1 : j < i
  · rw [if_pos h1, List.getElem?_append_left (by omega), List.getElem?_take, if_pos h1]
  · rw [if_neg h1, List.getElem?_append_right (by omega), ht]
    by_cases h2 : j = i
    · subst h2; simp
    · rw [if_neg h2, show j - i = (j - i - 1) + 1 from by omega, List.getElem?_cons_succ, List.getElem?_drop]
      rw [show i + (j - i - 1) = j - 1 from by omega]

theorem shape_setCells (b : Nat) : ∀ (vs : List Value) (o : Nat) (w : World) (i : Nat), (w.setCells b o vs).shape? i = w.shape? i
  | [], _, _, _ => rfl
  | v :: r, o, w, i => by rw [World.setCells, shape_setCells b r, shape_setCell]
theorem size_setCells' (b : Nat) : ∀ (vs : List Value) (o : Nat) (w : World), (w.setCells b o vs).heap.size = w.heap.size
  | [], _, _ => rfl
  | v :: r, o, w => by rw [World.setCells, size_setCells' b r, World.size_setCell]
theorem heap_setCells' (b : Nat) : ∀ (vs : List Value) (o : Nat) (w : World) (i : Nat), i ≠ b → (w.setCells b o vs).heap[i]? = w.heap[i]?
  | [], _, _, _, _ => rfl
  | v :: r, o, w, i, h => by rw [World.setCells, heap_setCells' b r _ _ i h]; exact heap_setCell_other w _ i v (fun e => h (by simpa using e))
theorem rest_setCells (b : Nat) : ∀ (vs : List Value) (o : Nat) (w : World), (w.setCells b o vs).os = w.os ∧ (w.setCells b o vs).tape = w.tape ∧ (w.setCells b o vs).output = w.output
  | [], _, _ => ⟨rfl, rfl, rfl⟩
  | v :: r, o, w => by rw [World.setCells]; exact rest_setCells b r _ _

/-- slices.BinarySearch of a sorted list. -/
theorem BinarySearch_c {tg : Bool} {T : TypeId} {S : Nat → Prop} {w : World} {A : Option Addr} {n c : Nat} {l : List Int} {x : Int} (h : Sl tg T intE w S A n c l) (hb : n < 4611686018427387904) (hs : l.Pairwise (· ≤ ·)) :
    Calls Try.prog 123 #[.slice A n c, .int .i64 x] w fun e w' => e = .returned (.tuple #[.int .i64 (l.countP (· < x) : Nat), .bool (l.contains x)]) ∧ ∃ q, w' = w.drewN q := by
  have hl := h.len
  rcases Nat.eq_zero_or_pos n with rfl | hn
  · obtain rfl : l = [] := List.eq_nil_of_length_eq_zero hl
    have := Any.slices_BinarySearch_int_empty Try.lays25 A c x w
    refine this.mono ?_
    rintro e w' ⟨rfl, hw⟩
    exact ⟨rfl, 0, hw.trans (by cases w; rfl)⟩
  obtain ⟨b, off, rfl, _⟩ := h.int_at hn
  have := Any.slices_BinarySearch_int Try.lays25 b off n c l x w (by omega) hb (fun j hj => by
    obtain ⟨b', off', e, _, _, _, hc, _⟩ := h.int_at (k := j) (by omega)
    injection e with e; injection e with e1 e2 _; subst e1; subst e2
    exact hc) (by rw [List.take_of_length_le (by omega)]; exact hs)
  rw [List.take_of_length_le (by omega)] at this
  exact this

abbrev ints (l : List Int) : List Value := l.map (fun x => Value.int .i64 x)
theorem isSome_setCells' (b : Nat) : ∀ (vs : List Value) (o : Nat) (w : World) (x : Addr), (w.cell? x).isSome = true → ((w.setCells b o vs).cell? x).isSome = true
  | [], _, _, _, h => h
  | v :: r, o, w, x, h => by
    rw [World.setCells]
    obtain ⟨u, hu⟩ := Option.isSome_iff_exists.1 h
    obtain ⟨u', hu'⟩ := cell?_setCell_some (p := ⟨b, o, none⟩) (x := v) hu
    exact isSome_setCells' b r _ _ x (by rw [hu']; rfl)
theorem ints_drop {l : List Int} {i j : Nat} (h : i + j < l.length) (hj : j < ((ints l).drop i).length) : ((ints l).drop i)[j] = .int .i64 (l.getD (i + j) 0) := by
  simp [ints, List.getD_eq_getElem?_getD, h]

theorem ins_shift {w : World} {g i n : Nat} {l : List Int} {x : Int} (hl : l.length = n) (hi : i < n) (hthere : ∀ j, j ≤ n → (w.cell? ⟨g, j, none⟩).isSome = true) (hb : ∀ j, j < i → w.cell? ⟨g, j, none⟩ = some (.int .i64 (l.getD j 0))) (j : Nat) (hj : j ≤ n) :
    ((w.setCells g (i + 1) ((ints l).drop i)).setCells g i [.int .i64 x]).cell? ⟨g, j, none⟩ = some (.int .i64 ((insAt i x l).getD j 0)) := by
  have hlen : ((ints l).drop i).length = n - i := by simp [hl]
  rw [insAt_getD (by omega)]
  by_cases h2 : j = i
  · subst h2
    rw [if_neg (by omega), if_pos rfl]
    have := World.cell?_setCells_in g [.int .i64 x] j (w.setCells g (j + 1) ((ints l).drop j)) (fun k hk => by
      simp at hk; subst hk
      exact isSome_setCells' g _ _ w _ (hthere j hj)) 0 (by simp)
    simpa using this
  · rw [World.cell?_setCells_out g _ _ _ _ (fun _ _ => by simp; omega)]
    by_cases h1 : j < i
    · rw [if_pos h1, World.cell?_setCells_out g _ _ _ _ (fun _ _ => by simp; omega)]
      exact hb j h1
    · rw [if_neg h1, if_neg h2]
      have := World.cell?_setCells_in g ((ints l).drop i) (i + 1) w (fun k hk => hthere _ (by omega)) (j - (i + 1)) (by omega)
      rw [show i + 1 + (j - (i + 1)) = j from by omega] at this
      rw [this, ints_drop (by omega), show i + (j - (i + 1)) = j - 1 from by omega]
theorem ins_grow {w : World} {g i n : Nat} {l : List Int} {x : Int} (hl : l.length = n) (hi : i < n) (hthere : ∀ j, j ≤ n → (w.cell? ⟨g, j, none⟩).isSome = true) (hb : ∀ j, j < i → w.cell? ⟨g, j, none⟩ = some (.int .i64 (l.getD j 0))) (j : Nat) (hj : j ≤ n) :
    ((w.setCells g i [.int .i64 x]).setCells g (i + 1) ((ints l).drop i)).cell? ⟨g, j, none⟩ = some (.int .i64 ((insAt i x l).getD j 0)) := by
  have hlen : ((ints l).drop i).length = n - i := by simp [hl]
  rw [insAt_getD (by omega)]
  by_cases h3 : j ≤ i
  · rw [World.cell?_setCells_out g _ _ _ _ (fun _ _ => by simp; omega)]
    by_cases h2 : j = i
    · subst h2
      rw [if_neg (by omega), if_pos rfl]
      have := World.cell?_setCells_in g [.int .i64 x] j w (fun k hk => by
        simp at hk; subst hk
        exact hthere j hj) 0 (by simp)
      simpa using this
    · rw [if_pos (by omega), World.cell?_setCells_out g _ _ _ _ (fun _ _ => by simp; omega)]
      exact hb j (by omega)
  · rw [if_neg (by omega), if_neg (by omega)]
    have := World.cell?_setCells_in g ((ints l).drop i) (i + 1) (w.setCells g i [.int .i64 x]) (fun k hk => isSome_setCells' g _ _ w _ (hthere _ (by omega))) (j - (i + 1)) (by omega)
    rw [show i + 1 + (j - (i + 1)) = j from by omega] at this
    rw [this, ints_drop (by omega), show i + (j - (i + 1)) = j - 1 from by omega]
theorem ins_end {g n : Nat} {w : World} {l : List Int} {x : Int} (hl : l.length = n) (hthere : (w.cell? ⟨g, n, none⟩).isSome = true) (hb : ∀ j, j < n → w.cell? ⟨g, j, none⟩ = some (.int .i64 (l.getD j 0))) (j : Nat) (hj : j ≤ n) :
    (w.setCells g n [.int .i64 x]).cell? ⟨g, j, none⟩ = some (.int .i64 ((insAt n x l).getD j 0)) := by
  rw [insAt_getD (by omega)]
  by_cases h2 : j = n
  · subst h2
    rw [if_neg (by omega), if_pos rfl]
    have := World.cell?_setCells_in g [.int .i64 x] j w (fun k hk => by
      simp at hk; subst hk
      exact hthere) 0 (by simp)
    simpa using this
  · rw [if_pos (by omega), World.cell?_setCells_out g _ _ _ _ (fun _ _ => by simp; omega)]
    exact hb j (by omega)

theorem _root_.Go.Silo.Own.block_of {α : Type} {T : TypeId} {E : Enc α} {w : World} {base : Nat} {S : Nat → Prop} {A : Option Addr} {n c : Nat} {xs : List α} (h : Own T E w base S A n c xs) (hc : 0 < c ∨ 0 < n) : ∃ g cur, A = some ⟨g, 0, none⟩ ∧ w.heap[g]? = some (.cells cur T (0, 0)) ∧ cur.size = c * E.sz := by
  obtain ⟨cells, ho, _, _⟩ := h
  rcases ho.2 with ⟨hv', h0⟩ | ⟨g, cap, cur, hv', hb, hh, _, _, hcs, _⟩
  · injection hv' with h1 h2 h3; omega
  · injection hv' with h1 h2 h3; subst h3; exact ⟨g, cur, h1, hh, hcs⟩

/-- What Insert leaves. -/
def InsPost (w : World) (S : Nat → Prop) (A : Option Addr) (l : List Int) (i : Nat) (x : Int) (e : Ending) (w' : World) : Prop :=
  ∃ A' c', e = .returned (.slice A' (l.length + 1) c') ∧ Sl true 3 intE w' (fun b => S b ∨ w.heap.size ≤ b) A' (l.length + 1) c' (insAt i x l) ∧ w.grownBy w' (ablk A)

theorem getElem?_map_int {l : List Int} {j : Nat} {v : Value} (h : (l.map (fun x => Value.int .i64 x))[j]? = some v) : j < l.length ∧ v = .int .i64 (l.getD j 0) := by
  rw [List.getElem?_map] at h
  cases hx : l[j]? with
  | none => rw [hx] at h; simp at h
  | some y => rw [hx] at h; simp at h; exact ⟨(List.getElem?_eq_some_iff.1 hx).1, by rw [List.getD_eq_getElem?_getD, hx]; exact h.symm⟩

set_option maxHeartbeats 2000000 in
theorem Insert_c {w : World} {base : Nat} {S : Nat → Prop} {A : Option Addr} {n c i vb : Nat} {l : List Int} {x : Int} (h : Own 3 intE w base S A n c l) (hS : ∀ r, ablk A = some r → S r) (hi : i ≤ n) (hn : n ≤ 1000000) (hx : I64 x)
    (hv : w.heap[vb]? = some (.cells #[.int .i64 x] 3 (0, 0))) (hvA : some vb ≠ ablk A) :
    Calls Try.prog 124 #[.slice A n c, .int .i64 (i : Int), .slice (some ⟨vb, 0, none⟩) 1 1] w (InsPost w S A l i x) := by
  have hl := h.len
  have hle := h.le
  have hsl := h.sl (tg := true)
  have hvs : ∀ j v, [Value.int .i64 x][j]? = some v → w.cell? ⟨vb, 0 + j, none⟩ = some v := by
    intro j v hj
    rw [cell_of_row w vb _ _ _ _ hv, Nat.zero_add]
    simpa using hj
  have h1v : ∀ v ∈ [Value.int .i64 x], v.oneCell' = true := by simp [Value.oneCell']
  have hcs : ∀ a, A = some a → ∀ j v, (l.map (fun x => Value.int .i64 x))[j]? = some v → w.cell? (a.add j) = some v := by
    intro a ha j v hj
    obtain ⟨hj, rfl⟩ := getElem?_map_int hj
    obtain ⟨b', off', e, _, _, _, hc, _⟩ := hsl.int_at (k := j) (by omega)
    rw [ha] at e; injection e with e; subst e
    rw [Addr.add_lit]
    exact hc
  have hall : ∀ y ∈ insAt i x l, I64 y := by
    intro y hy
    have hlI : ∀ z ∈ l, I64 z := fun z hz => by
      obtain ⟨j, hj, e⟩ := List.mem_iff_getElem.1 hz
      obtain ⟨_, _, _, _, _, gI, _⟩ := hsl.int_at (k := j) (by omega)
      rw [List.getD_eq_getElem?_getD, List.getElem?_eq_getElem hj] at gI
      rw [← e]; exact gI
    unfold insAt at hy
    simp at hy
    rcases hy with hy | rfl | hy
    · exact hlI _ (List.mem_of_mem_take hy)
    · exact hx
    · exact hlI _ (List.mem_of_mem_drop hy)
  have hml : (l.map (fun x => Value.int .i64 x)).length = n := by simp [hl]
  by_cases hend : i = n
  · subst hend
    by_cases hroom : c < i + 1
    · have hnil : A = none → i = 0 := by
        intro hA
        rcases Nat.eq_zero_or_pos i with h0 | h0
        · exact h0
        · obtain ⟨g, hg, _⟩ := h.form h0; rw [hA] at hg; cases hg
      have := Any2.slices_Insert_int_end_grow Try.lays21 A i c vb 0 1 1 (l.map (fun x => Value.int .i64 x)) [.int .i64 x] w (by omega) hle.1 hroom (by omega) hml rfl hnil hcs hvs h1v
      refine this.mono ?_
      rintro e w' ⟨rfl, rfl⟩
      have hgl := grownCap_ge w (i + 1) c 3
      have hgm := grownCap_le_maxLen w (i + 1) c 3 (by unfold maxLen; omega)
      rw [show Try.lays21_ren.t 3 = 3 from rfl]
      generalize grownCap w (i + 1) c 3 = gc at *
      have hnew := heap_alloc_new w.drew (.cells ((l.map (fun x => Value.int .i64 x) ++ [Value.int .i64 x]).toArray ++ Builtin.zeroCells (Value.int .i64 0).cells (gc - (i + 1))) 3)
      refine ⟨some ⟨w.heap.size, 0, none⟩, gc, by rw [hl], ?_, ⟨rfl, rfl, rfl, by simp, fun k hk _ => Below.heap_alloc _ _ _ hk⟩⟩
      refine Sl.ints_of (by rw [insAt_len (by omega)]) (by omega) (by unfold maxLen at hgm; omega) (.inr (Nat.le_refl _)) (by simp) ⟨_, shape_of_cells hnew⟩ (fun j hj => ⟨?_, frozen_of_row _ _ _ _ _ hnew⟩) hall
      refine (cell_of_row _ w.heap.size _ _ _ _ hnew).trans ?_
      rw [insAt_getD (by omega), Nat.zero_add, Array.getElem?_append_left (by simp; omega)]
      by_cases h1 : j < i
      · rw [if_pos h1]; simp [List.getElem?_append_left, h1, hl, List.getD_eq_getElem?_getD]
      · obtain rfl : j = i := by omega
        rw [if_neg h1, if_pos rfl]; simp [hl]
    · obtain ⟨g, cur, rfl, hh, hcs2⟩ := h.block_of (by omega)
      rw [show intE.sz = 1 from rfl, Nat.mul_one] at hcs2
      have hgt := (Array.getElem?_eq_some_iff.1 hh).1
      have hth : ∀ j, j < c → (w.cell? ⟨g, j, none⟩).isSome = true := fun j hj => by rw [cell_of_row w g j cur _ _ hh, Array.getElem?_eq_getElem (by omega)]; rfl
      have hcell : ∀ j, j < i → w.cell? ⟨g, j, none⟩ = some (.int .i64 (l.getD j 0)) := fun j hj => by
        obtain ⟨b', off', e, _, _, _, hc, _⟩ := hsl.int_at (k := j) hj
        injection e with e; injection e with e1 e2 _; subst e1; subst e2
        rwa [Nat.zero_add] at hc
      have := Any2.slices_Insert_int_end_room Try.lays21 g 0 i c vb 0 1 1 [.int .i64 x] w (by omega) (by omega) hle.2 rfl (fun j hj => by rw [Nat.zero_add]; exact hth _ (by omega)) (fun j hj => frozen_of_row w g _ cur _ hh) hvs h1v
      refine this.mono ?_
      rintro e w' ⟨rfl, rfl⟩
      rw [Nat.zero_add]
      refine ⟨some ⟨g, 0, none⟩, c, by rw [hl], ?_, ⟨(rest_setCells _ _ _ _).1, (rest_setCells _ _ _ _).2.1, (rest_setCells _ _ _ _).2.2, by rw [size_setCells']; exact Nat.le_refl _, fun k hk hne => heap_setCells' _ _ _ _ _ (fun e => hne (by rw [e]; rfl))⟩⟩
      refine Sl.ints_of (by rw [insAt_len (by omega)]) (by omega) hle.2 (.inl (hS g rfl)) (by rw [size_setCells']; exact hgt) ⟨_, by rw [shape_setCells]; exact shape_of_cells hh⟩ (fun j hj => ⟨?_, by rw [World.frozen?_setCells]; exact frozen_of_row w g _ cur _ hh⟩) hall
      rw [Nat.zero_add]
      exact ins_end hl (hth i (by omega)) hcell j (by omega)
  · obtain ⟨g, cur, rfl, hh, hcs2⟩ := h.block_of (by omega)
    rw [show intE.sz = 1 from rfl, Nat.mul_one] at hcs2
    have hgt := (Array.getElem?_eq_some_iff.1 hh).1
    have hth : ∀ j, j < c → (w.cell? ⟨g, j, none⟩).isSome = true := fun j hj => by rw [cell_of_row w g j cur _ _ hh, Array.getElem?_eq_getElem (by omega)]; rfl
    have hcell : ∀ j, j < n → w.cell? ⟨g, j, none⟩ = some (.int .i64 (l.getD j 0)) := fun j hj => by
      obtain ⟨b', off', e, _, _, _, hc, _⟩ := hsl.int_at (k := j) hj
      injection e with e; injection e with e1 e2 _; subst e1; subst e2
      rwa [Nat.zero_add] at hc
    have hcs' : ∀ j v, (ints l)[j]? = some v → w.cell? ⟨g, 0 + j, none⟩ = some v := fun j v hj => by
      obtain ⟨hj, rfl⟩ := getElem?_map_int hj
      rw [Nat.zero_add]; exact hcell j (by omega)
    have h1c : ∀ v ∈ ints l, v.oneCell' = true := by simp [ints, Value.oneCell']
    have hvg : vb ≠ g := fun e => hvA (by rw [e]; rfl)
    by_cases hroom : n + 1 ≤ c
    · have := Any2.slices_Insert_int_shift Try.lays21 g 0 n c i vb 0 1 1 (ints l) [.int .i64 x] w (by omega) (by omega) hroom hle.2 hvg hml rfl hcs' (fun j hj => by rw [Nat.zero_add]; exact hth _ (by omega)) (fun j hj => frozen_of_row w g _ cur _ hh) hvs h1c h1v _ _ _ _ (shape_of_cells hv) (shape_of_cells hh) (by omega) (frozen_of_row w vb _ _ _ hv) (frozen_of_row w vb _ _ _ hv)
      refine this.mono ?_
      rintro e w' ⟨rfl, rfl⟩
      rw [Nat.zero_add, Nat.zero_add]
      refine ⟨some ⟨g, 0, none⟩, c, by rw [hl], ?_, ⟨(rest_setCells _ _ _ _).1.trans (rest_setCells _ _ _ _).1, (rest_setCells _ _ _ _).2.1.trans (rest_setCells _ _ _ _).2.1, (rest_setCells _ _ _ _).2.2.trans (rest_setCells _ _ _ _).2.2, by rw [size_setCells', size_setCells']; exact Nat.le_refl _, fun k hk hne => (heap_setCells' _ _ _ _ _ (fun e => hne (by rw [e]; rfl))).trans (heap_setCells' _ _ _ _ _ (fun e => hne (by rw [e]; rfl)))⟩⟩
      refine Sl.ints_of (by rw [insAt_len (by omega)]) (by omega) hle.2 (.inl (hS g rfl)) (by rw [size_setCells', size_setCells']; exact hgt) ⟨_, by rw [shape_setCells, shape_setCells]; exact shape_of_cells hh⟩ (fun j hj => ⟨?_, by rw [World.frozen?_setCells, World.frozen?_setCells]; exact frozen_of_row w g _ cur _ hh⟩) hall
      rw [Nat.zero_add]
      exact ins_shift (w := w.drew) hl (by omega) (fun j hj => hth j (by omega)) (fun j hj => hcell j (by omega)) j (by omega)
    · have := Any2.slices_Insert_int_grow Try.lays21 g 0 n c i vb 0 1 1 (ints l) [.int .i64 x] w (by omega) (by omega) hle.1 (by omega) (by omega) hml rfl hcs' hvs h1c h1v
      refine this.mono ?_
      rintro e w' ⟨rfl, rfl⟩
      have hgl := grownCap_ge w (n + 1) c 3
      have hgm := grownCap_le_maxLen w (n + 1) c 3 (by unfold maxLen; omega)
      rw [show Try.lays21_ren.t 3 = 3 from rfl]
      generalize grownCap w (n + 1) c 3 = gc at *
      have hnew := heap_alloc_new w (.cells (((ints l).take i).toArray ++ Builtin.zeroCells (Value.int .i64 0).cells (n + 1 - i) ++ Builtin.zeroCells (Value.int .i64 0).cells (gc - (n + 1))) 3)
      have hsz1 : (Builtin.zeroCells (Value.int .i64 0).cells (n + 1 - i)).size = n + 1 - i := by rw [size_zeroCells]; simp [Value.cells]
      have hW : ∀ b, b < w.heap.size → (w.alloc (.cells (((ints l).take i).toArray ++ Builtin.zeroCells (Value.int .i64 0).cells (n + 1 - i) ++ Builtin.zeroCells (Value.int .i64 0).cells (gc - (n + 1))) 3)).heap[b]? = w.heap[b]? := fun b hb => Below.heap_alloc _ _ _ hb
      have hWs : (w.alloc (.cells (((ints l).take i).toArray ++ Builtin.zeroCells (Value.int .i64 0).cells (n + 1 - i) ++ Builtin.zeroCells (Value.int .i64 0).cells (gc - (n + 1))) 3)).heap.size = w.heap.size + 1 := by simp
      have hth2 : ∀ j, j ≤ n → ((w.alloc (.cells (((ints l).take i).toArray ++ Builtin.zeroCells (Value.int .i64 0).cells (n + 1 - i) ++ Builtin.zeroCells (Value.int .i64 0).cells (gc - (n + 1))) 3)).cell? ⟨w.heap.size, j, none⟩).isSome = true := fun j hj => by
        rw [cell_of_row _ _ j _ _ _ hnew, Array.getElem?_eq_getElem (by simp only [Array.size_append, hsz1]; simp [hl]; omega)]; rfl
      have hb2 : ∀ j, j < i → (w.alloc (.cells (((ints l).take i).toArray ++ Builtin.zeroCells (Value.int .i64 0).cells (n + 1 - i) ++ Builtin.zeroCells (Value.int .i64 0).cells (gc - (n + 1))) 3)).cell? ⟨w.heap.size, j, none⟩ = some (.int .i64 (l.getD j 0)) := fun j hj => by
        rw [cell_of_row _ _ j _ _ _ hnew, Array.getElem?_append_left (by simp only [Array.size_append, hsz1]; simp [hl]; omega), Array.getElem?_append_left (by simp [hl]; omega)]
        have hjl : j < l.length := by omega
        simp [ints, hj, List.getD_eq_getElem?_getD, hjl]
      have hos : (w.alloc (.cells (((ints l).take i).toArray ++ Builtin.zeroCells (Value.int .i64 0).cells (n + 1 - i) ++ Builtin.zeroCells (Value.int .i64 0).cells (gc - (n + 1))) 3)).os = w.os ∧ (w.alloc (.cells (((ints l).take i).toArray ++ Builtin.zeroCells (Value.int .i64 0).cells (n + 1 - i) ++ Builtin.zeroCells (Value.int .i64 0).cells (gc - (n + 1))) 3)).tape = w.tape ∧ (w.alloc (.cells (((ints l).take i).toArray ++ Builtin.zeroCells (Value.int .i64 0).cells (n + 1 - i) ++ Builtin.zeroCells (Value.int .i64 0).cells (gc - (n + 1))) 3)).output = w.output := ⟨rfl, rfl, rfl⟩
      generalize (w.alloc (.cells (((ints l).take i).toArray ++ Builtin.zeroCells (Value.int .i64 0).cells (n + 1 - i) ++ Builtin.zeroCells (Value.int .i64 0).cells (gc - (n + 1))) 3)) = W at *
      rw [drew_setCells]
      refine ⟨some ⟨w.heap.size, 0, none⟩, gc, by rw [hl], ?_, ⟨(rest_setCells _ _ _ _).1.trans ((rest_setCells _ _ _ _).1.trans hos.1), (rest_setCells _ _ _ _).2.1.trans ((rest_setCells _ _ _ _).2.1.trans hos.2.1), (rest_setCells _ _ _ _).2.2.trans ((rest_setCells _ _ _ _).2.2.trans hos.2.2), by rw [size_setCells', size_setCells']; show w.heap.size ≤ W.heap.size; omega, fun k hk _ => (heap_setCells' _ _ _ _ _ (by omega)).trans ((heap_setCells' _ _ _ _ _ (by omega)).trans (hW k hk))⟩⟩
      refine Sl.ints_of (by rw [insAt_len (by omega)]) (by omega) (by unfold maxLen at hgm; omega) (.inr (Nat.le_refl _)) (by rw [size_setCells', size_setCells']; show w.heap.size < W.heap.size; omega) ⟨_, by rw [shape_setCells, shape_setCells]; exact shape_of_cells hnew⟩ (fun j hj => ⟨?_, by rw [World.frozen?_setCells, World.frozen?_setCells]; exact frozen_of_row W _ _ _ _ hnew⟩) hall
      rw [Nat.zero_add]
      exact ins_grow (w := W.drew.drew) hl (by omega) hth2 hb2 j (by omega)
end Go.Proofs.Ytfccghfcilccfaa
