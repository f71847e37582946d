/- silolaw11.only answers true. -/
import Derived.Test.YtfccghfcilccfaaA9
import Derived.Deep.Cut
namespace Go.Proofs.Ytfccghfcilccfaa
open Go.RowKit Go.Silo

theorem Try.info_Act : (Try.prog.info? 135).map (fun i => (i.zero, i.size, i.bytes)) = some (some (.agg #[.int .i64 0, .int .i64 0, .int .i64 0, .bool false, .int .i64 0, .int .i64 0, .slice none 0 0]), 7, 72) := by kernel_rfl

/-- What only makes of act number i. -/
def actN (d : Int) (l : List ActD) (i : Nat) : ActD := if i % 3 < 2 then ⟨d, (l.getD i default).d, (l.getD i default).n, (l.getD i default).is, (l.getD i default).disk, (l.getD i default).pos, (l.getD i default).l⟩ else l.getD i default
def onlyN (d : Int) (l : List ActD) (k : Nat) : List ActD := (List.range k).map (actN d l)
theorem onlyN_succ (d : Int) (l : List ActD) (k : Nat) : onlyN d l (k + 1) = onlyN d l k ++ [actN d l k] := by unfold onlyN; rw [List.range_succ, List.map_append]; rfl
theorem only_bound {x : SlotsD} {l : List ActD} (h : ScriptB x l) (d : Int) : ScriptB x (onlyN d l l.length) := by
  refine ⟨h.1, ?_, fun a ha => ?_⟩
  · show (onlyN d l l.length).length * 72 ≤ _
    unfold onlyN
    rw [List.length_map, List.length_range]; exact h.2.1
  · obtain ⟨i, hi, rfl⟩ := List.mem_map.1 ha
    have hm := h.2.2 _ (getD_mem (d := default) (List.mem_range.1 hi))
    unfold actN ActB at *
    split
    · exact hm
    · exact hm

/-- At the loop's head: the script, and what was made of it. -/
structure OR (w : World) (S : Nat → Prop) (tg1 : Bool) (d : Int) (l : List ActD) (A0 : Option Addr) (n0 c0 : Nat) (A1 : Option Addr) (n1 c1 : Nat) (A2 : Option Addr) (n2 c2 k : Nat) (A : Option Addr) (c : Nat) (V : World) : Prop where
  bp : V.heap[w.heap.size]? = some (.cells #[.slice A0 n0 c0, .slice A1 n1 c1, .slice A2 n2 c2] 112 (0, 0))
  bq : V.heap[w.heap.size + 1]? = some (.cells #[.slice A0 n0 c0, .slice A1 n1 c1, .slice A k c] 112 (0, 0))
  own : Own 135 (actDE tg1) V (w.heap.size + 2) (fun b => S b ∧ b < w.heap.size) A k c (onlyN d l k)
  below : Below w.heap.size w V
  hi : w.heap.size + 1 < V.heap.size
section
variable {w : World} {S : Nat → Prop} {tg1 : Bool} {d : Int} {l : List ActD} {A0 A1 A2 A : Option Addr} {n0 c0 n1 c1 n2 c2 k c : Nat} {V V' : World}
theorem OR.all (h : OR w S tg1 d l A0 n0 c0 A1 n1 c1 A2 n2 c2 k A c V) (hb : Below V.heap.size V V') : OR w S tg1 d l A0 n0 c0 A1 n1 c1 A2 n2 c2 k A c V' := by
  have h1 := h.hi
  have h2 := hb.size
  exact ⟨(hb.block _ (by omega)).trans h.bp, (hb.block _ h1).trans h.bq, h.own.all hb, h.below.trans (hb.mono (by omega)), by omega⟩
theorem row_third {w : World} {g : Nat} {a b e v : Value} {T : TypeId} (h : w.heap[g]? = some (.cells #[a, b, e] T (0, 0))) : (w.setCell ⟨g, 2, none⟩ v).heap[g]? = some (.cells #[a, b, v] T (0, 0)) := by
  simp [World.setCell, Array.getElem?_modify, h]
/-- Behind the append, and the store of what it yields. -/
theorem OR.st {A9 : Option Addr} {c9 : Nat} (h : OR w S tg1 d l A0 n0 c0 A1 n1 c1 A2 n2 c2 k A c V) (own : Own 135 (actDE tg1) V' (w.heap.size + 2) (fun b => S b ∧ b < w.heap.size) A9 (k + 1) c9 (onlyN d l (k + 1))) (hg : V.grownBy V' (ablk A)) :
    V'.heap[w.heap.size + 1]? = some (.cells #[.slice A0 n0 c0, .slice A1 n1 c1, .slice A k c] 112 (0, 0)) ∧ OR w S tg1 d l A0 n0 c0 A1 n1 c1 A2 n2 c2 (k + 1) A9 c9 (V'.setCell ⟨w.heap.size + 1, 2, none⟩ (.slice A9 (k + 1) c9)) := by
  have h1 := h.hi
  have h2 := hg.size
  have hr : ∀ b, b < w.heap.size + 2 → some b ≠ ablk A := fun b hb e => by have := (h.own.lt b e.symm).1; omega
  have hq := (hg.block (w.heap.size + 1) h1 (hr _ (by omega))).trans h.bq
  have hp := (hg.block w.heap.size (by omega) (hr _ (by omega))).trans h.bp
  have hB := h.below.grown hg (by omega) (fun r hr' => by have := (h.own.lt r hr').1; omega)
  refine ⟨hq, ⟨by rw [Below.heap_setCell _ _ _ _ (by simp)]; exact hp, row_third hq, own.frame ?_ (by simp), hB.setCell (by show w.heap.size ≤ w.heap.size + 1; omega) _, by simp; omega⟩⟩
  refine Agree.setCell (fun hh => ?_) _
  rcases hh with hh | hh
  · exact absurd hh.2 (by show ¬ (w.heap.size + 1 < w.heap.size); omega)
  · have := (own.lt _ hh.symm).1
    simp at this
end

set_option maxRecDepth 100000 in
set_option maxHeartbeats 8000000 in
theorem only_c {tg tg1 : Bool} {T : TypeId} {S : Nat → Prop} {w : World} {A0 A1 A2 : Option Addr} {n0 c0 n1 c1 n2 c2 : Nat} {x : SlotsD} {l : List ActD} {d : Int} (hB : ScriptB x l) (hd : I64 d)
    (h0 : Sl tg 4 boolE w S A0 n0 c0 x.live) (h1 : Sl tg 52 (slE tg 3 intE) w S A1 n1 c1 x.free) (h2 : Sl tg T (actDE tg1) w S A2 n2 c2 l) :
    Calls Try.prog 83 #[.agg #[.slice A0 n0 c0, .slice A1 n1 c1, .slice A2 n2 c2], .int .i64 d] w (RetV (.bool true) w) := by
  obtain ⟨i0, hi0, hz0, hz1, hz2⟩ := info_parts Try.info_Act
  have HL2 := Lib.hid h2.len
  have hn72 : n2 * 72 ≤ 140737488351232 := by have h := hB.2.1; have hr : reachBytes = 140737488351232 := by decide
                                              have := HL2.out; rw [this, hr] at h; omega
  have hcap2 : n2 ≤ 9223372036854775807 := Nat.le_trans h2.le h2.cap
  have HB := Lib.hid (only_bound hB d); clear hB
  have H0 := Lib.hid h0; clear h0
  have H1 := Lib.hid h1; clear h1
  have HN := Lib.hid (fun W (hW : Below w.heap.size w W) => h2.lt_block.all hW); clear h2
  have HD := Lib.hid hd; clear hd
  go_enter Try.func83, Try.ntmps83
  have hOR : OR w S tg1 d l A0 n0 c0 A1 n1 c1 A2 n2 c2 0 none 0 ((w.alloc (.cells #[.slice A0 n0 c0, .slice A1 n1 c1, .slice A2 n2 c2] 112)).alloc (.cells #[.slice A0 n0 c0, .slice A1 n1 c1, .slice none 0 0] 112)) := by
    refine ⟨?_, ?_, Own.nil_, (by repeat' (first | (with_reducible exact Below.refl _ _) | (with_reducible refine Below.alloc ?_ ?_ _) | (with_reducible refine Below.drew ?_) | (with_reducible refine below_drewN ?_ _) | (with_reducible refine Below.setCell ?_ ?_ _) | (refine via ?_ (by with_reducible assumption) ?_) | (refine via ?_ (below_ext _ _) ?_) | go_size)), by simp⟩
    · rw [Below.heap_alloc _ _ _ (by simp)]; exact heap_alloc_new _ _
    · have := heap_alloc_new (w.alloc (.cells #[.slice A0 n0 c0, .slice A1 n1 c1, .slice A2 n2 c2] 112)) (.cells #[.slice A0 n0 c0, .slice A1 n1 c1, .slice none 0 0] 112)
      rw [World.size_alloc] at this; exact this
  have HOR := Lib.hid hOR; clear hOR
  go_upto_region 2 with (fail)
  generalize ((w.alloc (.cells #[.slice A0 n0 c0, .slice A1 n1 c1, .slice A2 n2 c2] 112)).alloc (.cells #[.slice A0 n0 c0, .slice A1 n1 c1, .slice none 0 0] 112)) = w1 at *
  go_wp2_with fail
  go_loopw [6] (fun i wr => ∃ k : Nat, ∃ A c, k ≤ n2 ∧ i = .int .i64 k ∧ Hid (OR w S tg1 d l A0 n0 c0 A1 n1 c1 A2 n2 c2 k A c wr)) (fun i _ => n2 - (intOf i).toNat)
  case atStart => exact ⟨0, _, _, Nat.zero_le _, rfl, HOR⟩
  case round =>
    obtain ⟨k, A, c, hk, rfl, HO⟩ := hrel
    clear HOR
    have p2 := (cell_of_row wr w.heap.size 2 _ _ _ HO.out.bp).trans (show _ = some (Value.slice A2 n2 c2) from rfl)
    have sz := HO.out.hi
    by_cases hlt : k < n2
    · obtain ⟨b, off, A6, n6, c6, rfl, hS, hbl, q0, q1, q2, q3, q4, q5, e0, e1, e2, e3, e4, e5, e6, _⟩ := (HN.out wr HO.out.below).actD_at hlt
      have hR : (actDE tg1).R wr (fun b => S b ∧ b < w.heap.size) [.int .i64 (actN d l k).act, .int .i64 (l.getD k default).d, .int .i64 (l.getD k default).n, .bool (l.getD k default).is, .int .i64 (l.getD k default).disk, .int .i64 (l.getD k default).pos, .slice A6 n6 c6] (actN d l k) := by
        unfold actN
        split
        · exact ⟨A6, n6, c6, rfl, ⟨HD.out, q1, q2, q3, q4⟩, q5⟩
        · exact ⟨A6, n6, c6, rfl, ⟨q0, q1, q2, q3, q4⟩, q5⟩
      have hact : (actN d l k).act = if k % 3 < 2 then d else (l.getD k default).act := by unfold actN; split <;> rfl
      have HSUC := Lib.hid (onlyN_succ d l k)
      clear q0 q1 q2 q3 q4 q5
      rw [hact] at hR
      clear hact
      generalize actN d l k = y at *
      generalize l.getD k default = a at *
      have hmod : Int.tmod (k : Int) 3 = ((k % 3 : Nat) : Int) := by rw [Int.natCast_emod]; exact Int.tmod_eq_emod_of_nonneg (by omega)
      by_cases hm3 : k % 3 < 2
      · rw [if_pos hm3] at hR
        have HR := Lib.hid hR; clear hR
        go_upto_region 8 with (fail)
        have HO2 := Lib.hid (HO.out.all ((Below.refl _ _).alloc (Nat.le_refl _) (.cells #[.int .i64 d, .int .i64 a.d, .int .i64 a.n, .bool a.is, .int .i64 a.disk, .int .i64 a.pos, .slice A6 n6 c6] 135)))
        have hrow := heap_alloc_new wr (.cells #[.int .i64 d, .int .i64 a.d, .int .i64 a.n, .bool a.is, .int .i64 a.disk, .int .i64 a.pos, .slice A6 n6 c6] 135)
        have HR2 := Lib.hid ((actDE tg1).frame (Agree.alloc _ wr (.cells #[.int .i64 d, .int .i64 a.d, .int .i64 a.n, .bool a.is, .int .i64 a.disk, .int .i64 a.pos, .slice A6 n6 c6] 135)) (by simp) HR.out)
        clear HR e0 e1 e2 e3 e4 e5 e6 p2 hmod
        generalize (wr.alloc (.cells #[.int .i64 d, .int .i64 a.d, .int .i64 a.n, .bool a.is, .int .i64 a.disk, .int .i64 a.pos, .slice A6 n6 c6] 135)) = w2 at *
        have q0 := (cell_of_row w2 (w.heap.size + 1) 0 _ _ _ HO2.out.bq).trans (show _ = some (Value.slice A0 n0 c0) from rfl)
        have q2 := (cell_of_row w2 (w.heap.size + 1) 2 _ _ _ HO2.out.bq).trans (show _ = some (Value.slice A k c) from rfl)
        have e0 := (cell_of_row w2 wr.heap.size 0 _ _ _ hrow).trans (show _ = some (.int .i64 d : Value) from rfl)
        have e1 := (cell_of_row w2 wr.heap.size 1 _ _ _ hrow).trans (show _ = some (Value.int .i64 a.d) from rfl)
        have e2 := (cell_of_row w2 wr.heap.size 2 _ _ _ hrow).trans (show _ = some (Value.int .i64 a.n) from rfl)
        have e3 := (cell_of_row w2 wr.heap.size 3 _ _ _ hrow).trans (show _ = some (Value.bool a.is) from rfl)
        have e4 := (cell_of_row w2 wr.heap.size 4 _ _ _ hrow).trans (show _ = some (Value.int .i64 a.disk) from rfl)
        have e5 := (cell_of_row w2 wr.heap.size 5 _ _ _ hrow).trans (show _ = some (Value.int .i64 a.pos) from rfl)
        have e6 := (cell_of_row w2 wr.heap.size 6 _ _ _ hrow).trans (show _ = some (Value.slice A6 n6 c6) from rfl)
        have HO3 := Lib.hid (HO2.out.all ((Below.refl _ _).alloc (Nat.le_refl _) (.cells #[.int .i64 d, .int .i64 a.d, .int .i64 a.n, .bool a.is, .int .i64 a.disk, .int .i64 a.pos, .slice A6 n6 c6] 135)))
        have hR3 := (actDE tg1).mono (S' := fun b => (S b ∧ b < w.heap.size) ∧ some b ≠ ablk A) (fun b hb _ => ⟨hb, fun e => by have := (HO3.out.own.lt b e.symm).1; omega⟩) ((actDE tg1).frame (Agree.alloc _ w2 (.cells #[.int .i64 d, .int .i64 a.d, .int .i64 a.n, .bool a.is, .int .i64 a.disk, .int .i64 a.pos, .slice A6 n6 c6] 135)) (by simp) HR2.out)
        have HR3 := Lib.hid hR3; clear hR3
        have sz2 := HO2.out.hi
        clear hrow
        go_wp2_with (at_builtin; refine wpList_append1 rfl _ _ 110 rfl i0 (.agg #[.int .i64 0, .int .i64 0, .int .i64 0, .bool false, .int .i64 0, .int .i64 0, .slice none 0 0]) 72 Try.underlying110 hi0 hz0 hz1 hz2 rfl (Nat.succ_pos 6) rfl HO3.out.own w2.heap.size 135 1 _ y rfl (heap_alloc_new _ _) HR3.out (by omega) (by omega) (by simp; omega) ?_)
        intro A9 c9 w4 hown4 hg4 hat4
        obtain ⟨hq, hO4⟩ := HO3.out.st (by rw [HSUC.out]; exact hown4) hg4
        have HO4 := Lib.hid hO4; clear hO4 hown4 hat4
        have f0 := (cell_of_row w4 (w.heap.size + 1) 2 _ _ _ hq).trans (show _ = some (Value.slice A k c) from rfl)
        have f1 := frozen_of_row w4 (w.heap.size + 1) 2 _ _ hq
        clear hq hg4 e0 e1 e2 e3 e4 e5 e6 q0 q2
        go_wp2
        go_roundw
        case rel => exact ⟨k + 1, A9, c9, by omega, by go_num, HO4⟩
        case measure => simp [intOf]; omega
      · rw [if_neg hm3] at hR
        have HR := Lib.hid hR; clear hR
        go_upto_region 8 with (fail)
        have HO2 := Lib.hid (HO.out.all ((Below.refl _ _).alloc (Nat.le_refl _) (.cells #[.int .i64 a.act, .int .i64 a.d, .int .i64 a.n, .bool a.is, .int .i64 a.disk, .int .i64 a.pos, .slice A6 n6 c6] 135)))
        have hrow := heap_alloc_new wr (.cells #[.int .i64 a.act, .int .i64 a.d, .int .i64 a.n, .bool a.is, .int .i64 a.disk, .int .i64 a.pos, .slice A6 n6 c6] 135)
        have HR2 := Lib.hid ((actDE tg1).frame (Agree.alloc _ wr (.cells #[.int .i64 a.act, .int .i64 a.d, .int .i64 a.n, .bool a.is, .int .i64 a.disk, .int .i64 a.pos, .slice A6 n6 c6] 135)) (by simp) HR.out)
        clear HR e0 e1 e2 e3 e4 e5 e6 p2 hmod
        generalize (wr.alloc (.cells #[.int .i64 a.act, .int .i64 a.d, .int .i64 a.n, .bool a.is, .int .i64 a.disk, .int .i64 a.pos, .slice A6 n6 c6] 135)) = w2 at *
        have q0 := (cell_of_row w2 (w.heap.size + 1) 0 _ _ _ HO2.out.bq).trans (show _ = some (Value.slice A0 n0 c0) from rfl)
        have q2 := (cell_of_row w2 (w.heap.size + 1) 2 _ _ _ HO2.out.bq).trans (show _ = some (Value.slice A k c) from rfl)
        have e0 := (cell_of_row w2 wr.heap.size 0 _ _ _ hrow).trans (show _ = some (.int .i64 a.act : Value) from rfl)
        have e1 := (cell_of_row w2 wr.heap.size 1 _ _ _ hrow).trans (show _ = some (Value.int .i64 a.d) from rfl)
        have e2 := (cell_of_row w2 wr.heap.size 2 _ _ _ hrow).trans (show _ = some (Value.int .i64 a.n) from rfl)
        have e3 := (cell_of_row w2 wr.heap.size 3 _ _ _ hrow).trans (show _ = some (Value.bool a.is) from rfl)
        have e4 := (cell_of_row w2 wr.heap.size 4 _ _ _ hrow).trans (show _ = some (Value.int .i64 a.disk) from rfl)
        have e5 := (cell_of_row w2 wr.heap.size 5 _ _ _ hrow).trans (show _ = some (Value.int .i64 a.pos) from rfl)
        have e6 := (cell_of_row w2 wr.heap.size 6 _ _ _ hrow).trans (show _ = some (Value.slice A6 n6 c6) from rfl)
        have HO3 := Lib.hid (HO2.out.all ((Below.refl _ _).alloc (Nat.le_refl _) (.cells #[.int .i64 a.act, .int .i64 a.d, .int .i64 a.n, .bool a.is, .int .i64 a.disk, .int .i64 a.pos, .slice A6 n6 c6] 135)))
        have hR3 := (actDE tg1).mono (S' := fun b => (S b ∧ b < w.heap.size) ∧ some b ≠ ablk A) (fun b hb _ => ⟨hb, fun e => by have := (HO3.out.own.lt b e.symm).1; omega⟩) ((actDE tg1).frame (Agree.alloc _ w2 (.cells #[.int .i64 a.act, .int .i64 a.d, .int .i64 a.n, .bool a.is, .int .i64 a.disk, .int .i64 a.pos, .slice A6 n6 c6] 135)) (by simp) HR2.out)
        have HR3 := Lib.hid hR3; clear hR3
        have sz2 := HO2.out.hi
        clear hrow
        go_wp2_with (at_builtin; refine wpList_append1 rfl _ _ 110 rfl i0 (.agg #[.int .i64 0, .int .i64 0, .int .i64 0, .bool false, .int .i64 0, .int .i64 0, .slice none 0 0]) 72 Try.underlying110 hi0 hz0 hz1 hz2 rfl (Nat.succ_pos 6) rfl HO3.out.own w2.heap.size 135 1 _ y rfl (heap_alloc_new _ _) HR3.out (by omega) (by omega) (by simp; omega) ?_)
        intro A9 c9 w4 hown4 hg4 hat4
        obtain ⟨hq, hO4⟩ := HO3.out.st (by rw [HSUC.out]; exact hown4) hg4
        have HO4 := Lib.hid hO4; clear hO4 hown4 hat4
        have f0 := (cell_of_row w4 (w.heap.size + 1) 2 _ _ _ hq).trans (show _ = some (Value.slice A k c) from rfl)
        have f1 := frozen_of_row w4 (w.heap.size + 1) 2 _ _ hq
        clear hq hg4 e0 e1 e2 e3 e4 e5 e6 q0 q2
        go_wp2
        go_roundw
        case rel => exact ⟨k + 1, A9, c9, by omega, by go_num, HO4⟩
        case measure => simp [intOf]; omega
    · obtain rfl : n2 = k := by omega
      have q0 := (cell_of_row wr (w.heap.size + 1) 0 _ _ _ HO.out.bq).trans (show _ = some (Value.slice A0 n0 c0) from rfl)
      have q1 := (cell_of_row wr (w.heap.size + 1) 1 _ _ _ HO.out.bq).trans (show _ = some (Value.slice A1 n1 c1) from rfl)
      have q2 := (cell_of_row wr (w.heap.size + 1) 2 _ _ _ HO.out.bq).trans (show _ = some (Value.slice A n2 c) from rfl)
      have hown := HO.out.own.sl (tg := tg)
      have hex := SlotsExact_c (w := wr) (S := fun b => (S b ∨ (S b ∧ b < w.heap.size)) ∨ w.heap.size + 2 ≤ b) HB.out ((H0.out.all HO.out.below).mono (fun b hb _ => .inl (.inl hb))) ((H1.out.all HO.out.below).mono (fun b hb _ => .inl (.inl hb)))
        (by rw [HL2.out]; exact hown.mono (fun b hb _ => by rcases hb with hb | hb; exact .inl (.inr hb); exact .inr hb))
      have HEX := Lib.hid hex; clear hex hown
      go_wp2_with fail
      refine HEX.out.mono ?_
      rintro e w3 ⟨rfl, hb3⟩
      have HB3 := Lib.hid (HO.out.below.trans (hb3.mono (by omega))); clear hb3
      go_wp2
      go_ret
      exact ⟨by trivial, HB3.out⟩
end Go.Proofs.Ytfccghfcilccfaa
