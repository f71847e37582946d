/- silolaw11.SlotsBack answers true. -/
import Derived.Test.YtfccghfcilccfaaT6
import Derived.Test.YtfccghfcilccfaaT9
import Derived.Test.YtfccghfcilccfaaP1
import Derived.Test.YtfccghfcilccfaaB4
namespace Go.Proofs.Ytfccghfcilccfaa
open Go.RowKit Go.Silo

theorem takeErr_cases (x : SlotsD) (n : Nat) (not : List Int) : takeErr x n not = 0 ∨ takeErr x n not = 5 ∨ takeErr x n not = 6 := by
  unfold takeErr
  split
  · exact .inr (.inr rfl)
  · split
    · exact .inr (.inl rfl)
    · exact .inl rfl
theorem countR_ok {x : SlotsD} (h : SlotsOk x) : countR x = ((cnt x x.free.length : Nat) : Int) := by unfold countR; rw [if_pos (slotsOkB_true h)]

def tupleAt (k : Nat) : Value → Value
  | .tuple vs => vs.getD k undef
  | _ => undef
/-- The worlds between the steps of 'w, h := slots.Give(y, l[i])'. -/
inductive WdBack (V : World) (r : SlotsD × Int) : List (Nat × Value) → World → Prop
  | n0 {w : World} : Below V.heap.size V w → WdBack V r [] w
  | nb {w : World} {g : Nat} : Below V.heap.size V w → V.heap.size ≤ g → w.heap[g]? = some (.cells #[.slice none 0 0, .slice none 0 0] 62 (0, 0)) → WdBack V r [(9, .pointer (some ⟨g, 0, none⟩))] w
  | nc {w : World} {A A' : Option Addr} {n c n' c' : Nat} : Below V.heap.size V w → Sl true 4 boolE w (fun b => V.heap.size ≤ b ∧ b < w.heap.size) A n c r.1.live → Sl true 52 (slE true 3 intE) w (fun b => V.heap.size ≤ b ∧ b < w.heap.size) A' n' c' r.1.free →
      WdBack V r [(5, .tuple #[.agg #[.slice A n c, .slice A' n' c'], .int .i64 r.2])] w
  | both {w : World} {A A' : Option Addr} {n c n' c' g : Nat} {us : List (Nat × Value)} : Below V.heap.size V w → V.heap.size ≤ g → w.heap[g]? = some (.cells #[.slice none 0 0, .slice none 0 0] 62 (0, 0)) →
      Sl true 4 boolE w (fun b => V.heap.size ≤ b ∧ b ≠ g) A n c r.1.live → Sl true 52 (slE true 3 intE) w (fun b => V.heap.size ≤ b ∧ b ≠ g) A' n' c' r.1.free →
      (us = [(5, .tuple #[.agg #[.slice A n c, .slice A' n' c'], .int .i64 r.2]), (9, .pointer (some ⟨g, 0, none⟩))] ∨ us = [(9, .pointer (some ⟨g, 0, none⟩)), (5, .tuple #[.agg #[.slice A n c, .slice A' n' c'], .int .i64 r.2])]) → WdBack V r us w
  | done {w : World} {A A' : Option Addr} {n c n' c' g : Nat} {us : List (Nat × Value)} {x : Value} : Below V.heap.size V w → V.heap.size ≤ g → w.heap[g]? = some (.cells #[.slice A n c, .slice A' n' c'] 62 (0, 0)) →
      Sl true 4 boolE w (fun b => V.heap.size ≤ b ∧ b ≠ g) A n c r.1.live → Sl true 52 (slE true 3 intE) w (fun b => V.heap.size ≤ b ∧ b ≠ g) A' n' c' r.1.free →
      (us = [(5, .tuple #[.agg #[.slice A n c, .slice A' n' c'], .int .i64 r.2]), (9, .pointer (some ⟨g, 0, none⟩)), (10, x)] ∨ us = [(9, .pointer (some ⟨g, 0, none⟩)), (5, .tuple #[.agg #[.slice A n c, .slice A' n' c'], .int .i64 r.2]), (10, x)]) → WdBack V r us w
theorem WdBack.tup {V w : World} {r : SlotsD × Int} {us : List (Nat × Value)} (h : WdBack V r us w) (h5 : 5 ∈ us.map Prod.fst) : ∃ A n c A' n' c', us.lookup 5 = some (.tuple #[.agg #[.slice A n c, .slice A' n' c'], .int .i64 r.2]) := by
  cases h with
  | n0 _ => simp at h5
  | nb _ _ _ => simp at h5
  | nc _ _ _ => exact ⟨_, _, _, _, _, _, rfl⟩
  | both _ _ _ _ _ h => rcases h with rfl | rfl <;> exact ⟨_, _, _, _, _, _, rfl⟩
  | done _ _ _ _ _ h => rcases h with rfl | rfl <;> exact ⟨_, _, _, _, _, _, rfl⟩
theorem WdBack.below {V w : World} {r : SlotsD × Int} {us : List (Nat × Value)} (h : WdBack V r us w) : Below V.heap.size V w := by cases h <;> assumption

set_option maxRecDepth 100000 in
set_option maxHeartbeats 8000000 in
theorem SlotsBack_c {tg tg1 : Bool} {T : TypeId} {S : Nat → Prop} {w : World} {A0 A1 A2 : Option Addr} {n0 c0 n1 c1 n2 c2 : Nat} {x : SlotsD} {l : List ActD}
    (h0 : Sl tg 4 boolE w S A0 n0 c0 x.live) (h1 : Sl tg 52 (slE tg 3 intE) w S A1 n1 c1 x.free) (h2 : Sl tg T (actDE tg1) w S A2 n2 c2 l) :
    Calls Try.prog 12 #[.agg #[.slice A0 n0 c0, .slice A1 n1 c1, .slice A2 n2 c2]] w (RetV (.bool true) w) := by
  have HL0 := Lib.hid h0.len
  have HL1 := Lib.hid h1.len
  have HOK := Lib.hid (@slotsOk_of x)
  generalize hr : slotsOkB x = r at *
  have HR := Lib.hid hr; clear hr
  go_enter Try.func12, Try.ntmps12
  go_wp2_with fail
  refine (Heavy_any (h0.all (by repeat' (first | (with_reducible exact Below.refl _ _) | (with_reducible refine Below.alloc ?_ ?_ _) | (with_reducible refine Below.drew ?_) | (with_reducible refine below_drewN ?_ _) | (with_reducible refine Below.setCell ?_ ?_ _) | (refine via ?_ (by with_reducible assumption) ?_) | (refine via ?_ (below_ext _ _) ?_) | go_size))) (h1.all (by repeat' (first | (with_reducible exact Below.refl _ _) | (with_reducible refine Below.alloc ?_ ?_ _) | (with_reducible refine Below.drew ?_) | (with_reducible refine below_drewN ?_ _) | (with_reducible refine Below.setCell ?_ ?_ _) | (refine via ?_ (by with_reducible assumption) ?_) | (refine via ?_ (below_ext _ _) ?_) | go_size))) (h2.all (by repeat' (first | (with_reducible exact Below.refl _ _) | (with_reducible refine Below.alloc ?_ ?_ _) | (with_reducible refine Below.drew ?_) | (with_reducible refine below_drewN ?_ _) | (with_reducible refine Below.setCell ?_ ?_ _) | (refine via ?_ (by with_reducible assumption) ?_) | (refine via ?_ (below_ext _ _) ?_) | go_size)))).mono ?_
  rintro e w1 ⟨v, rfl, hb1⟩
  have s1 := hb1.size
  simp at s1
  cases v with
  | true =>
    go_wp2
    go_ret
    exact ⟨rfl, (by repeat' (first | (with_reducible exact Below.refl _ _) | (with_reducible refine Below.alloc ?_ ?_ _) | (with_reducible refine Below.drew ?_) | (with_reducible refine below_drewN ?_ _) | (with_reducible refine Below.setCell ?_ ?_ _) | (refine via ?_ (by with_reducible assumption) ?_) | (refine via ?_ (below_ext _ _) ?_) | go_size))⟩
  | false =>
    have hw1 : w1.heap[w.heap.size]? = some (.cells #[.slice A0 n0 c0, .slice A1 n1 c1, .slice A2 n2 c2] 112 (0, 0)) := by
      rw [hb1.block _ (by simp)]; exact heap_alloc_new _ _
    have p0 := (cell_of_row w1 w.heap.size 0 _ _ _ hw1).trans (show _ = some (Value.slice A0 n0 c0) from rfl)
    have p1 := (cell_of_row w1 w.heap.size 1 _ _ _ hw1).trans (show _ = some (Value.slice A1 n1 c1) from rfl)
    have HW1 := Lib.hid hw1; clear hw1
    go_wp2_with fail
    refine (slotsCheck_c (h0.all (by repeat' (first | (with_reducible exact Below.refl _ _) | (with_reducible refine Below.alloc ?_ ?_ _) | (with_reducible refine Below.drew ?_) | (with_reducible refine below_drewN ?_ _) | (with_reducible refine Below.setCell ?_ ?_ _) | (refine via ?_ (by with_reducible assumption) ?_) | (refine via ?_ (below_ext _ _) ?_) | go_size))) (h1.all (by repeat' (first | (with_reducible exact Below.refl _ _) | (with_reducible refine Below.alloc ?_ ?_ _) | (with_reducible refine Below.drew ?_) | (with_reducible refine below_drewN ?_ _) | (with_reducible refine Below.setCell ?_ ?_ _) | (refine via ?_ (by with_reducible assumption) ?_) | (refine via ?_ (below_ext _ _) ?_) | go_size)))).mono ?_
    rintro e w2 ⟨rfl, hb2⟩
    have s2 := hb2.size
    rw [HR.out]
    cases r with
    | false =>
      go_wp2_with fail
      refine num_c.mono ?_
      rintro e w3 ⟨rfl, hb3⟩
      have s3 := hb3.size
      go_wp2
      go_ret
      exact ⟨rfl, (by repeat' (first | (with_reducible exact Below.refl _ _) | (with_reducible refine Below.alloc ?_ ?_ _) | (with_reducible refine Below.drew ?_) | (with_reducible refine below_drewN ?_ _) | (with_reducible refine Below.setCell ?_ ?_ _) | (refine via ?_ (by with_reducible assumption) ?_) | (refine via ?_ (below_ext _ _) ?_) | go_size))⟩
    | true =>
      go_wp2_with fail
      refine num_c.mono ?_
      rintro e w3 ⟨rfl, hb3⟩
      have s3 := hb3.size
      have hB3 : Below w.heap.size w w3 := (by repeat' (first | (with_reducible exact Below.refl _ _) | (with_reducible refine Below.alloc ?_ ?_ _) | (with_reducible refine Below.drew ?_) | (with_reducible refine below_drewN ?_ _) | (with_reducible refine Below.setCell ?_ ?_ _) | (refine via ?_ (by with_reducible assumption) ?_) | (refine via ?_ (below_ext _ _) ?_) | go_size))
      have HW3 : Hid (w3.heap[w.heap.size]? = some (.cells #[.slice A0 n0 c0, .slice A1 n1 c1, .slice A2 n2 c2] 112 (0, 0))) := Lib.hid (by rw [hb3.block _ (by omega), hb2.block _ (by omega)]; exact HW1.out)
      have hx := HOK.out (by trivial)
      have hsz3 : w.heap.size < w3.heap.size := by omega
      have HX := Lib.hid hx
      clear HOK hx p0 p1 HW1 hb1 hb2 hb3 s1 s2 s3
      go_wp2_with fail
      go_loopw [3] (fun n wr => ∃ k : Nat, 1 ≤ k ∧ k ≤ 13 ∧ n = .int .i64 k ∧ Below w3.heap.size w3 wr) (fun n _ => 13 - (intOf n).toNat)
      case atStart => exact ⟨1, by omega, by omega, rfl, Below.refl _ _⟩
      case round =>
        rename World => wo
        obtain ⟨k, hk1, hk13, rfl, hBr⟩ := hrel
        have hsr := hBr.size
        have hBw : Below w.heap.size w wo := (by repeat' (first | (with_reducible exact Below.refl _ _) | (with_reducible refine Below.alloc ?_ ?_ _) | (with_reducible refine Below.drew ?_) | (with_reducible refine below_drewN ?_ _) | (with_reducible refine Below.setCell ?_ ?_ _) | (refine via ?_ (by with_reducible assumption) ?_) | (refine via ?_ (below_ext _ _) ?_) | go_size))
        have hwr : wo.heap[w.heap.size]? = some (.cells #[.slice A0 n0 c0, .slice A1 n1 c1, .slice A2 n2 c2] 112 (0, 0)) := by rw [hBr.block _ hsz3]; exact HW3.out
        by_cases hlt : k ≤ 12
        · have p0 := (cell_of_row wo w.heap.size 0 _ _ _ hwr).trans (show _ = some (Value.slice A0 n0 c0) from rfl)
          have p1 := (cell_of_row wo w.heap.size 1 _ _ _ hwr).trans (show _ = some (Value.slice A1 n1 c1) from rfl)
          have HWR := Lib.hid hwr; clear hwr
          have ht := Take_c (w := wo) (tg2 := false) (T := 0) (S2 := fun _ => False) (A2 := none) (n2 := 0) (c2 := 0) (not := []) (n := (k : Int)) (by unfold I64; omega) (h0.all hBw) (h1.all hBw) (Sl.nil_ (by omega))
          by_cases hE : takeErr x k [] = 0
          · rw [takeR_ok (n := (k : Int)) (not := []) ⟨slotsOkB_true HX.out, by omega, by omega⟩ hE] at ht
            rw [show ((k : Nat) : Int).toNat = k from rfl] at ht
            go_wp2_with fail
            refine ht.mono ?_
            clear ht
            rintro e w4 ⟨Al, nl, cl, A3, n3, c3, A4, n4, c4, rfl, hl, h3, h4, hb4⟩
            simp only at hl h3 h4
            obtain rfl : nl = k := by have := hl.len; have := chosen_len hE; unfold takeL at *; rw [List.length_map] at *; omega
            have s4 := hb4.size
            go_wp2_with fail
            refine num_c.mono ?_
            rintro e w5 ⟨rfl, hb5⟩
            have s5 := hb5.size
            simp at s5
            have hw5 : w5.heap[w.heap.size]? = some (.cells #[.slice A0 n0 c0, .slice A1 n1 c1, .slice A2 n2 c2] 112 (0, 0)) := by
              rw [hb5.block _ (by simp; omega), Below.heap_alloc _ _ _ (by omega), hb4.block _ (by omega)]; exact HWR.out
            have hy5 : w5.heap[w4.heap.size]? = some (.cells #[.slice A3 n3 c3, .slice A4 n4 c4] 62 (0, 0)) := by
              rw [hb5.block _ (by simp)]; exact heap_alloc_new _ _
            have p0 := (cell_of_row w5 w.heap.size 0 _ _ _ hw5).trans (show _ = some (Value.slice A0 n0 c0) from rfl)
            have p1 := (cell_of_row w5 w.heap.size 1 _ _ _ hw5).trans (show _ = some (Value.slice A1 n1 c1) from rfl)
            have hB5 : Below wo.heap.size wo w5 := by clear hBw hBr; exact (by repeat' (first | (with_reducible exact Below.refl _ _) | (with_reducible refine Below.alloc ?_ ?_ _) | (with_reducible refine Below.drew ?_) | (with_reducible refine below_drewN ?_ _) | (with_reducible refine Below.setCell ?_ ?_ _) | (refine via ?_ (by with_reducible assumption) ?_) | (refine via ?_ (below_ext _ _) ?_) | go_size))
            have hB45 : Below w4.heap.size w4 w5 := by clear hBw hBr hB5; exact (by repeat' (first | (with_reducible exact Below.refl _ _) | (with_reducible refine Below.alloc ?_ ?_ _) | (with_reducible refine Below.drew ?_) | (with_reducible refine below_drewN ?_ _) | (with_reducible refine Below.setCell ?_ ?_ _) | (refine via ?_ (by with_reducible assumption) ?_) | (refine via ?_ (below_ext _ _) ?_) | go_size))
            have hyok : SlotsOk (takeX x nl []) := backX_ok HX.out nl 0
            have hcc := back_count (n := nl) HX.out hE
            have hq1 := Count_c (h0.all (w' := w5) (via hBw hB5 (by omega))) (h1.all (w' := w5) (via hBw hB5 (by omega)))
            rw [HR.out, countR_ok HX.out] at hq1
            have hq2 := fun W (hW : Below w4.heap.size w4 W) => Count_c (h3.all hW) (h4.all hW)
            rw [slotsOkB_true hyok, countR_ok hyok] at hq2
            have hcb : cnt (takeX x nl []) (takeX x nl []).free.length ≤ 768 := by
              have h1 := cnt_le (takeX x nl []) 64 (fun l hl => pigeon (hyok.free l hl)) _ (Nat.le_refl _)
              have h2 := hyok.same
              have h3 := hyok.most
              omega
            generalize cnt x x.free.length = ca at *
            generalize cnt (takeX x nl []) (takeX x nl []).free.length = cb at *
            have HY := Lib.hid hyok; clear hyok
            obtain rfl : ca = cb + nl := hcc
            have hn3 : n3 = n0 := by have h1 := h3.len; have h2 := HL0.out; exact h1.symm.trans h2
            subst hn3
            go_wp2_with fail
            refine hq1.mono ?_
            clear hq1
            rintro e w6 ⟨rfl, hb6⟩
            have s6 := hb6.size
            have y0 := (cell_of_row w6 w4.heap.size 0 _ _ _ ((hb6.block _ (by omega)).trans hy5)).trans (show _ = some (Value.slice A3 n3 c3) from rfl)
            have y1 := (cell_of_row w6 w4.heap.size 1 _ _ _ ((hb6.block _ (by omega)).trans hy5)).trans (show _ = some (Value.slice A4 n4 c4) from rfl)
            go_wp2_with fail
            refine (hq2 w6 (via hB45 hb6 (Nat.le_refl _))).mono ?_
            clear hq2
            rintro e w7 ⟨rfl, hb7⟩
            have s7 := hb7.size
            go_wp2_with fail
            refine num_c.mono ?_
            rintro e w8 ⟨rfl, hb8⟩
            have s8 := hb8.size
            go_wp2_with fail
            refine num_c.mono ?_
            rintro e w9 ⟨rfl, hb9⟩
            have s9 := hb9.size
            have hp9 : w9.heap[w.heap.size]? = some (.cells #[.slice A0 n3 c0, .slice A1 n1 c1, .slice A2 n2 c2] 112 (0, 0)) := by
              rw [hb9.block _ (by omega), hb8.block _ (by omega), hb7.block _ (by omega), hb6.block _ (by omega)]; exact hw5
            have hy9 : w9.heap[w4.heap.size]? = some (.cells #[.slice A3 n3 c3, .slice A4 n4 c4] 62 (0, 0)) := by
              rw [hb9.block _ (by omega), hb8.block _ (by omega), hb7.block _ (by omega), hb6.block _ (by omega)]; exact hy5
            clear p0 p1 y0 y1
            have p0 := (cell_of_row w9 w.heap.size 0 _ _ _ hp9).trans (show _ = some (Value.slice A0 n3 c0) from rfl)
            have y0 := (cell_of_row w9 w4.heap.size 0 _ _ _ hy9).trans (show _ = some (Value.slice A3 n3 c3) from rfl)
            have hB59 : Below w5.heap.size w5 w9 := by clear hBw hBr hB5 hB45; exact (by repeat' (first | (with_reducible exact Below.refl _ _) | (with_reducible refine Below.alloc ?_ ?_ _) | (with_reducible refine Below.drew ?_) | (with_reducible refine below_drewN ?_ _) | (with_reducible refine Below.setCell ?_ ?_ _) | (refine via ?_ (by with_reducible assumption) ?_) | (refine via ?_ (below_ext _ _) ?_) | go_size))
            have hB9 : Below wo.heap.size wo w9 := via hB5 hB59 (Nat.le_refl _)
            have hB49 : Below w4.heap.size w4 w9 := via hB45 hB59 (Nat.le_refl _)
            clear hb4 hb5 hb6 hb7 hb8 hb9 hB5 hB45 hB59 hw5 hy5
            go_wp2_with fail
            have hlb := hl.lt_block
            have H3 : Hid (Sl true 4 boolE w9 (fun b => wo.heap.size ≤ b ∧ b ≠ w4.heap.size) A3 n3 c3 x.live) := Lib.hid (((h3.lt_block).below hB49 (fun b hb _ => hb.2)).mono (fun b hb _ => ⟨hb.1, by omega⟩))
            have H4 : Hid (Sl true 52 (slE true 3 intE) w9 (fun b => wo.heap.size ≤ b ∧ b ≠ w4.heap.size) A4 n4 c4 (backX x nl 0).free) := Lib.hid (((h4.lt_block).below hB49 (fun b hb _ => hb.2)).mono (fun b hb _ => ⟨hb.1, by omega⟩))
            have HL : Hid (Sl true 104 slotE w9 (fun b => b < w4.heap.size) Al nl cl (takeL x nl [])) := Lib.hid (((hl.lt_block).below hB49 (fun b hb _ => hb.2)).mono (fun b hb _ => hb.2))
            have HY9 := Lib.hid hy9; clear hy9
            have HP9 := Lib.hid hp9; clear hp9
            have s9' : w4.heap.size < w9.heap.size := by omega
            clear h3 h4 hl hlb hB49 p0 y0 s5 s6 s7 s8 s9
            have HB9 : Hid (Below w3.heap.size w3 w9) := Lib.hid (via hBr hB9 (Nat.le_refl _))
            have HBW9 : Hid (Below w.heap.size w w9) := Lib.hid (via hBw hB9 (by omega))
            clear hB9 hBr hBw
            go_loopw [11] (fun iv wv => ∃ i : Nat, ∃ A5 c5 A6 c6, i ≤ nl ∧ iv = .int .i64 i ∧ wv.heap[w4.heap.size]? = some (.cells #[.slice A5 n3 c5, .slice A6 n4 c6] 62 (0, 0)) ∧
                Sl true 4 boolE wv (fun b => wo.heap.size ≤ b ∧ b ≠ w4.heap.size) A5 n3 c5 x.live ∧ Sl true 52 (slE true 3 intE) wv (fun b => wo.heap.size ≤ b ∧ b ≠ w4.heap.size) A6 n4 c6 (backX x nl i).free ∧ Below w4.heap.size w9 wv) (fun iv _ => nl - (intOf iv).toNat)
            case atStart => exact ⟨0, A3, c3, A4, c4, by omega, rfl, HY9.out, H3.out, H4.out, Below.refl _ _⟩
            case round =>
              rename World => wv
              obtain ⟨i, A5, c5, A6, c6, hi, rfl, hy, h5, h6, hBv⟩ := hrel
              have HYV := Lib.hid hy; clear hy
              have H5 := Lib.hid h5; clear h5
              have H6 := Lib.hid h6; clear h6
              have HBV := Lib.hid hBv; clear hBv
              by_cases hlt2 : i < nl
              · obtain ⟨d, hd⟩ : ∃ d, (chosen x nl [])[i]? = some d := ⟨_, List.getElem?_eq_getElem (by rw [chosen_len hE]; exact hlt2)⟩
                obtain ⟨d0, d1, d2⟩ := chosen_mem (List.mem_of_getElem? hd)
                have dlive := chosen_live (List.mem_of_getElem? hd)
                obtain ⟨d, rfl⟩ := Int.eq_ofNat_of_zero_le d0
                rw [show ((d : Nat) : Int).toNat = d from rfl] at dlive
                have hdn : d < n3 := by have := HL0.out; omega
                have hlv := HL.out.below HBV.out (fun b hb _ => hb)
                obtain ⟨b, off, rfl, hb4, hbl, hI1, hI2, l0, l1, _, _⟩ := hlv.slot_at hlt2
                have hget : (takeL x nl []).getD i default = slotOf x (d : Int) := by
                  unfold takeL
                  rw [List.getD_eq_getElem?_getD, List.getElem?_map, hd]; rfl
                rw [hget] at hI1 hI2 l0 l1
                have hsd : (slotOf x (d : Int)).disk = (d : Int) := rfl
                rw [hsd] at l0 hI1
                generalize hpos : (slotOf x (d : Int)).pos = pos at *
                have HPOS := Lib.hid hpos; clear hpos
                have hpv : wv.heap[w.heap.size]? = some (.cells #[.slice A0 n3 c0, .slice A1 n1 c1, .slice A2 n2 c2] 112 (0, 0)) := by rw [HBV.out.block _ (by omega)]; exact HP9.out
                have p0 := (cell_of_row wv w.heap.size 0 _ _ _ hpv).trans (show _ = some (Value.slice A0 n3 c0) from rfl)
                obtain ⟨b0, off0, rfl, _, hbl0, lv, _⟩ := ((h0.lt_block).below (w' := wv) (HBW9.out.trans (HBV.out.mono (by omega))) (fun b hb hlt => hb.2)).bool_at hdn
                rw [dlive] at lv
                have HC : Hid (∀ X, Calls Try.prog 30 #[.int .i64 (d : Int), .int .i64 ((n3 : Int) - 1)] (wv.ext X) (RetV (.bool true) (wv.ext X))) := Lib.hid (fun X => by
                  have := Num_c (w := wv.ext X) (n := (d : Int)) (m := (n3 : Int) - 1)
                  rw [decide_eq_true (by omega)] at this
                  exact this)
                have HDN := Lib.hid hd; clear hd
                have hn12 : n3 ≤ 12 := by have := HX.out.most; have := HL0.out; omega
                clear d0 d1 d2 dlive hpv hlv hget hsd
                have hsp : w.heap.size < wv.heap.size := by have := HBV.out.size; omega
                go_wp2_with fail
                have hext := cell_ext wv
                refine region_ext (by kernel_rfl) (by kernel_rfl) ?_
                repeat (go_big_quiet_step ((go_at_call 30; exact RetV.ext (HC.out _))))
                refine wpQuiet_nil ?_
                rintro _ ⟨X, rfl⟩
                have HBX : Hid (Below w4.heap.size w9 (wv.ext X)) := Lib.hid (HBV.out.trans ((below_ext wv X).mono (by have := HBV.out.size; omega)))
                have HYX : Hid ((wv.ext X).heap[w4.heap.size]? = some (.cells #[.slice A5 n3 c5, .slice A6 n4 c6] 62 (0, 0))) := Lib.hid (by rw [(below_ext wv X).block w4.heap.size (by have := HBV.out.size; omega)]; exact HYV.out)
                have H5X : Hid (Sl true 4 boolE (wv.ext X) (fun b => wo.heap.size ≤ b ∧ b ≠ w4.heap.size) A5 n3 c5 x.live) := Lib.hid (H5.out.all (below_ext wv X))
                have H6X : Hid (Sl true 52 (slE true 3 intE) (wv.ext X) (fun b => wo.heap.size ≤ b ∧ b ≠ w4.heap.size) A6 n4 c6 (backX x nl i).free) := Lib.hid (H6.out.all (below_ext wv X))
                have sX : w9.heap.size ≤ (wv.ext X).heap.size := HBX.out.size
                clear hext HC l0 l1 p0 lv hbl hbl0 hsp H5 H6 HYV HBV
                generalize wv.ext X = wx at *
                go_wp2_with fail
                go_loopw [12] (fun kv wu => ∃ m : Nat, m ≤ i ∧ kv = .int .i64 m ∧ Below wx.heap.size wx wu) (fun kv _ => i - (intOf kv).toNat)
                case atStart => exact ⟨0, by omega, rfl, Below.refl _ _⟩
                case round =>
                  rename World => wu
                  obtain ⟨m, hm, rfl, hBu⟩ := hrel
                  have hBu9 : Below w4.heap.size w9 wu := HBX.out.trans (hBu.mono (by omega))
                  have su := hBu.size
                  have HBU := Lib.hid hBu; clear hBu
                  have hlu := HL.out.below hBu9 (fun b hb _ => hb)
                  obtain ⟨b2, off2, e2, hb42, hbl2, _, _, l0, l1, _, _⟩ := hlu.slot_at hlt2
                  injection e2 with e2; injection e2 with e3 e4 _; subst e3; subst e4
                  have hget : (takeL x nl []).getD i default = slotOf x (d : Int) := by
                    unfold takeL
                    rw [List.getD_eq_getElem?_getD, List.getElem?_map, HDN.out]; rfl
                  rw [hget, HPOS.out] at l1
                  rw [hget] at l0
                  replace l0 : wu.cell? ⟨b, off + i * 2, none⟩ = some (.int .i64 (d : Int)) := l0
                  have HBU9 := Lib.hid hBu9; clear hBu9
                  by_cases hlt3 : m < i
                  · obtain ⟨dm, hdm⟩ : ∃ dm, (chosen x nl [])[m]? = some dm := ⟨_, List.getElem?_eq_getElem (by rw [chosen_len hE]; omega)⟩
                    obtain ⟨b3, off3, e2, _, _, hIm, _, m0, _, _, _⟩ := hlu.slot_at (show m < nl by omega)
                    injection e2 with e2; injection e2 with e3 e4 _; subst e3; subst e4
                    have hgm : (takeL x nl []).getD m default = slotOf x dm := by
                      unfold takeL
                      rw [List.getD_eq_getElem?_getD, List.getElem?_map, hdm]; rfl
                    rw [hgm] at m0
                    replace m0 : wu.cell? ⟨b, off + m * 2, none⟩ = some (.int .i64 dm) := m0
                    have hne : dm ≠ (d : Int) := by
                      intro e
                      obtain ⟨q1, q2⟩ := List.getElem?_eq_some_iff.1 hdm
                      obtain ⟨q3, q4⟩ := List.getElem?_eq_some_iff.1 HDN.out
                      exact (List.pairwise_iff_getElem.1 (chosen_nodup x nl [])) m i q1 q3 hlt3 (q2.trans (e.trans q4.symm))
                    clear hget hgm hlu hdm
                    go_wp2_with fail
                    have hext := cell_ext wu
                    refine region_ext (by kernel_rfl) (by kernel_rfl) ?_
                    repeat (go_big_quiet_step (fail))
                    refine wpQuiet_nil ?_
                    rintro _ ⟨X, rfl⟩
                    go_wp2
                    exact ⟨⟨m + 1, by omega, by go_num, HBU.out.trans ((below_ext wu X).mono su)⟩, by simp [intOf]; omega⟩
                  · clear hget hlu
                    have HG : Hid (∀ W, Below wu.heap.size wu W → Calls Try.prog 78 #[.agg #[.slice A5 n3 c5, .slice A6 n4 c6], .agg #[.int .i64 (d : Int), .int .i64 pos]] W (RetSE W (backX x nl (i + 1), 0))) := Lib.hid (fun W hW => by
                      have := Give_c (w := W) (x := backX x nl i) (d := (d : Int)) (a := pos) hI1 hI2 ((H5X.out.all HBU.out).all hW) ((H6X.out.all HBU.out).all hW)
                      rw [← HPOS.out, back_give HX.out HDN.out] at this
                      rw [HPOS.out] at this
                      exact this)
                    have hyu : wu.heap[w4.heap.size]? = some (.cells #[.slice A5 n3 c5, .slice A6 n4 c6] 62 (0, 0)) := by rw [HBU.out.block w4.heap.size (by omega)]; exact HYX.out
                    have y0 := (cell_of_row wu w4.heap.size 0 _ _ _ hyu).trans (show _ = some (Value.slice A5 n3 c5) from rfl)
                    have y1 := (cell_of_row wu w4.heap.size 1 _ _ _ hyu).trans (show _ = some (Value.slice A6 n4 c6) from rfl)
                    have HYU := Lib.hid hyu; clear hyu
                    have sgy : w4.heap.size < wu.heap.size := by omega
                    have cells : ∀ us w6, WdBack wu (backX x nl (i + 1), 0) us w6 → w6.cell? ⟨w4.heap.size, 0, none⟩ = some (.slice A5 n3 c5) ∧ w6.cell? ⟨w4.heap.size, 1, none⟩ = some (.slice A6 n4 c6) ∧ w6.cell? ⟨b, off + i * 2, none⟩ = some (.int .i64 (d : Int)) ∧ w6.cell? ⟨b, off + i * 2 + 1, none⟩ = some (.int .i64 pos) := by
                      intro us w6 hW
                      have hB := hW.below
                      exact ⟨(hB.cell (p := ⟨w4.heap.size, 0, none⟩) sgy).trans y0, (hB.cell (p := ⟨w4.heap.size, 1, none⟩) sgy).trans y1, (hB.cell (p := ⟨b, off + i * 2, none⟩) hbl2).trans l0, (hB.cell (p := ⟨b, off + i * 2 + 1, none⟩) hbl2).trans l1⟩
                    have CELLS := Lib.hid cells; clear cells
                    clear y0 y1 l0 l1
                    go_wp2_with fail
                    refine region_free (by kernel_rfl) (by kernel_rfl) 146 rfl [128, 129, 130, 131, 132, 133, 127, 134, 135, 13, 14] [5, 9, 10] [(133, 5), (13, 9)]
                      [(128, [], fun _ => .agg #[.slice A5 n3 c5, .slice A6 n4 c6]), (129, [], fun _ => .slice (some ⟨b, off, none⟩) nl cl), (130, [], fun _ => .int .i64 (i : Int)), (131, [], fun _ => .pointer (some ⟨b, off + i * 2, none⟩)), (132, [], fun _ => .agg #[.int .i64 (d : Int), .int .i64 pos]),
                        (127, [5], fun l => l.getD 0 undef), (134, [5], fun l => tupleAt 0 (l.getD 0 undef)), (135, [5], fun l => tupleAt 1 (l.getD 0 undef)), (14, [5], fun l => tupleAt 1 (l.getD 0 undef))]
                      [[], [], [], [], [], [10], [], [], [], [10], [], []] [[], [], [], [], [], [], [], [], [], [], [5, 9], []] [[], [], [], [129, 130], [131], [128, 132], [133], [127], [127], [], [13, 134], [135]] (WdBack wu (backX x nl (i + 1), 0)) (by kernel_rfl) (.n0 (Below.refl _ _).drew) ⟨?_, ?_, ?_, ?_, ?_, ?_, ?_, ?_, ?_, ?_, ?_, ?_, trivial⟩ ?_
                    · (refine OpH.rd rfl (fun ρ us w6 ho ht hc hl hsrc hW => ?_); have e5 := (ho 5 rfl).trans (show _ = (.pointer (some ⟨w4.heap.size, 0, none⟩) : Value) from rfl); obtain ⟨y0, y1, l0, l1⟩ := CELLS.out us w6 hW; simp only [execOp, e5]; go_simp; try rfl)
                    · (refine OpH.rd rfl (fun ρ us w6 ho ht hc hl hsrc hW => ?_); have e4 := (ho 4 rfl).trans (show _ = (.slice (some ⟨b, off, none⟩) nl cl : Value) from rfl); simp only [execOp, e4]; go_simp; try rfl)
                    · (refine OpH.rd rfl (fun ρ us w6 ho ht hc hl hsrc hW => ?_); have e11 := (ho 11 rfl).trans (show _ = (.int .i64 (i : Int) : Value) from rfl); simp only [execOp, e11]; go_simp; try rfl)
                    · (refine OpH.rd rfl (fun ρ us w6 ho ht hc hl hsrc hW => ?_); have e129 := (ht 129 (by decide)).trans (show _ = (.slice (some ⟨b, off, none⟩) nl cl : Value) from rfl); have e130 := (ht 130 (by decide)).trans (show _ = (.int .i64 (i : Int) : Value) from rfl); simp only [execOp, e129, e130]; go_simp; try rfl)
                    · (refine OpH.rd rfl (fun ρ us w6 ho ht hc hl hsrc hW => ?_); have e131 := (ht 131 (by decide)).trans (show _ = (.pointer (some ⟨b, off + i * 2, none⟩) : Value) from rfl); obtain ⟨y0, y1, l0, l1⟩ := CELLS.out us w6 hW; simp only [execOp, e131]; go_simp; try rfl)
                    · refine OpH.wr rfl (fun A us w6 ho ht hni hlim hreq hW K hK => ?_)
                      have e128 := (ht 128 (by decide)).trans (show _ = (.agg #[.slice A5 n3 c5, .slice A6 n4 c6] : Value) from rfl)
                      have e132 := (ht 132 (by decide)).trans (show _ = (.agg #[.int .i64 (d : Int), .int .i64 pos] : Value) from rfl)
                      refine step_call rfl 78 #[.tmp 128, .tmp 132] #[62, 104] rfl Try.func78 (by kernel_rfl) (by kernel_rfl) #[.agg #[.slice A5 n3 c5, .slice A6 n4 c6], .agg #[.int .i64 (d : Int), .int .i64 pos]] (by simp [e128, e132]) (HG.out w6 hW.below) ?_
                      rintro e w7 ⟨A7, n7, c7, A8, n8, c8, rfl, h7, h8, hb7⟩
                      refine ⟨_, rfl, hK _ _ ?_⟩
                      cases hW with
                      | n0 hB => exact .nc (hB.trans (hb7.mono hB.size)) ((h7.lt_block).mono (fun b hb _ => ⟨Nat.le_trans hB.size hb.1, hb.2⟩)) ((h8.lt_block).mono (fun b hb _ => ⟨Nat.le_trans hB.size hb.1, hb.2⟩))
                      | nb hB hg hrow =>
                        have hgl := (Array.getElem?_eq_some_iff.1 hrow).1
                        exact .both (hB.trans (hb7.mono hB.size)) hg ((hb7.block _ hgl).trans hrow) (h7.mono (fun b hb _ => ⟨Nat.le_trans hB.size hb, by have : w6.heap.size ≤ b := hb; omega⟩)) (h8.mono (fun b hb _ => ⟨Nat.le_trans hB.size hb, by have : w6.heap.size ≤ b := hb; omega⟩)) (.inr rfl)
                      | nc _ _ _ => exact absurd (by simp) hni
                      | both _ _ _ _ _ h => exact absurd (by rcases h with rfl | rfl <;> simp) hni
                      | done _ _ _ _ _ h => exact absurd (by rcases h with rfl | rfl <;> simp) hni
                    · (refine OpH.rd rfl (fun ρ us w6 ho ht hc hl hsrc hW => ?_); have e133 := (ht 133 (by decide)).trans (show _ = ((us.lookup 5).getD undef : Value) from rfl); simp only [execOp, e133]; go_simp; try rfl)
                    · refine OpH.rd rfl (fun ρ us w6 ho ht hc hl hsrc hW => ?_)
                      obtain ⟨A7, n7, c7, A8, n8, c8, hlk⟩ := hW.tup (hsrc 5 (by exact (List.mem_singleton.2 rfl : (5 : Nat) ∈ [5])))
                      have e127 := (ht 127 (by decide)).trans (show _ = (us.lookup 5).getD undef from rfl)
                      rw [hlk] at e127
                      change _ = Result.ok (Next.value (tupleAt 0 ((us.lookup 5).getD undef))) w6
                      rw [hlk]
                      simp only [execOp, e127]
                      go_simp
                      try rfl
                    · refine OpH.rd rfl (fun ρ us w6 ho ht hc hl hsrc hW => ?_)
                      obtain ⟨A7, n7, c7, A8, n8, c8, hlk⟩ := hW.tup (hsrc 5 (by exact (List.mem_singleton.2 rfl : (5 : Nat) ∈ [5])))
                      have e127 := (ht 127 (by decide)).trans (show _ = (us.lookup 5).getD undef from rfl)
                      rw [hlk] at e127
                      change _ = Result.ok (Next.value (tupleAt 1 ((us.lookup 5).getD undef))) w6
                      rw [hlk]
                      simp only [execOp, e127]
                      go_simp
                      try rfl
                    · refine OpH.wr rfl (fun A us w6 ho ht hni hlim hreq hW K hK => ?_)
                      rw [if_pos (by simp [Region.wanted])]
                      unfold Oper.wp
                      generalize A.eval = ρ at *
                      simp only [execOp]
                      go_simp
                      refine hK _ _ ?_
                      cases hW with
                      | n0 hB => exact .nb (hB.alloc hB.size _) hB.size (heap_alloc_new _ _)
                      | nb _ _ _ => exact absurd (by simp) hni
                      | nc hB h7 h8 => exact .both (hB.alloc hB.size _) hB.size (heap_alloc_new _ _) ((h7.frame (Agree.alloc _ _ _) (by simp)).mono (fun b hb _ => ⟨hb.1, by omega⟩)) ((h8.frame (Agree.alloc _ _ _) (by simp)).mono (fun b hb _ => ⟨hb.1, by omega⟩)) (.inl rfl)
                      | both _ _ _ _ _ h => exact absurd (by rcases h with rfl | rfl <;> simp) hni
                      | done _ _ _ _ _ h => exact absurd (by rcases h with rfl | rfl <;> simp) hni
                    · refine OpH.wr rfl (fun A us w6 ho ht hni hlim hreq hW K hK => ?_)
                      have q5 := hreq 5 (by decide)
                      have q9 := hreq 9 (by decide)
                      cases hW with
                      | n0 _ => exact absurd q5 (by simp)
                      | nb _ _ _ => exact absurd q5 (by simp)
                      | nc _ _ _ => exact absurd q9 (by simp)
                      | done _ _ _ _ _ h => exact absurd (by rcases h with rfl | rfl <;> simp) hni
                      | @both _ A7 A8 n7 c7 n8 c8 g _ hB hg hrow h7 h8 hus =>
                        have e13 := (ht 13 (by decide)).trans (show _ = (.pointer (some ⟨g, 0, none⟩) : Value) from by rcases hus with rfl | rfl <;> rfl)
                        have e134 := (ht 134 (by decide)).trans (show _ = (.agg #[.slice A7 n7 c7, .slice A8 n8 c8] : Value) from by rcases hus with rfl | rfl <;> rfl)
                        have z0 := (cell_of_row w6 g 0 _ _ _ hrow).trans (show _ = some (Value.slice none 0 0) from rfl)
                        have z1 := (cell_of_row w6 g 1 _ _ _ hrow).trans (show _ = some (Value.slice none 0 0) from rfl)
                        have z2 := frozen_of_row w6 g 0 _ _ hrow
                        have z3 := frozen_of_row w6 g 1 _ _ hrow
                        have hk1 : Keeps (fun b => wu.heap.size ≤ b ∧ b ≠ g) w6 ((w6.setCell ⟨g, 0, none⟩ (.slice A7 n7 c7)).setCell ⟨g, 1, none⟩ (.slice A8 n8 c8)) := ((Keeps.refl _ _).setCell (fun h => h.2 rfl) _).setCell (fun h => h.2 rfl) _
                        have hdone : WdBack wu (backX x nl (i + 1), 0) (us ++ [(10, undef)]) ((w6.setCell ⟨g, 0, none⟩ (.slice A7 n7 c7)).setCell ⟨g, 1, none⟩ (.slice A8 n8 c8)) := .done ((hB.setCell hg _).setCell hg _) hg (row_set2 hrow) (h7.keep hk1) (h8.keep hk1) (by rcases hus with rfl | rfl; exact .inl rfl; exact .inr rfl)
                        have HD := Lib.hid hdone
                        clear hdone hk1 h7 h8 hB hrow ht ho hlim hreq hni q5 q9 hus
                        rw [if_pos (by simp [Region.wanted])]
                        unfold Oper.wp
                        generalize A.eval = ρ at *
                        simp only [execOp, e13, e134]
                        go_simp
                        exact hK undef _ HD.out
                    · (refine OpH.rd rfl (fun ρ us w6 ho ht hc hl hsrc hW => ?_); have e135 := (ht 135 (by decide)).trans (show _ = (tupleAt 1 ((us.lookup 5).getD undef) : Value) from rfl); simp only [execOp, e135]; go_simp; try rfl)
                    · intro us w7 hmem hW
                      have q5 := hmem 5 (by decide)
                      have q9 := hmem 9 (by decide)
                      have q10 := hmem 10 (by decide)
                      cases hW with
                      | n0 _ => exact absurd q5 (by simp)
                      | nb _ _ _ => exact absurd q5 (by simp)
                      | nc _ _ _ => exact absurd q9 (by simp)
                      | both _ _ _ _ _ h => exact absurd q10 (by rcases h with rfl | rfl <;> simp)
                      | @done _ A7 A8 n7 c7 n8 c8 g _ x10 hB hg hrow h7 h8 hus =>
                      have hs13 := fun (fx : Fx) => (show slotAt (fun t => List.lookup t [(133, 5), (13, 9)]) fx us 13 = .pointer (some ⟨g, 0, none⟩) from by rcases hus with rfl | rfl <;> rfl)
                      have hn7 : n7 = n3 := by have h1 := h7.len; have h2 := HL0.out; exact h1.symm.trans h2
                      have hn8 : n8 = n4 := by
                        have h1 := h8.len
                        have h2 := H6X.out.len
                        have h3 : (backX x nl (i + 1)).free.length = (backX x nl i).free.length := (tails_length _ _).trans (tails_length _ _).symm
                        exact h1.symm.trans (h3.trans h2)
                      subst hn7 hn8
                      simp only [putAll, List.map_cons, List.map_nil, List.foldl_cons, List.foldl_nil, Act.put, List.setIfInBounds_toArray, List.set_cons_succ, List.set_cons_zero]
                      rw [hs13]
                      have hs14 : ∀ (a1 a2 a3 a4 a5 : Value), slotAt (fun t => List.lookup t [(133, 5), (13, 9)]) [(128, [], fun _ => a1), (129, [], fun _ => a2), (130, [], fun _ => a3), (131, [], fun _ => a4), (132, [], fun _ => a5), (127, [5], fun l => l.getD 0 undef), (134, [5], fun l => tupleAt 0 (l.getD 0 undef)), (135, [5], fun l => tupleAt 1 (l.getD 0 undef)), (14, [5], fun l => tupleAt 1 (l.getD 0 undef))] us 14 = .int .i64 0 := fun _ _ _ _ _ => by rcases hus with rfl | rfl <;> rfl
                      rw [hs14]
                      generalize slotAt _ _ us = sv
                      have H7 := Lib.hid h7
                      have H8 := Lib.hid h8
                      have HROW := Lib.hid hrow
                      have HB7 := Lib.hid hB
                      clear hs13 hs14 hus h7 h8 hrow hB q5 q9 q10 hmem
                      go_wp2_with fail
                      refine num_c.mono ?_
                      rintro e w8 ⟨rfl, hb8⟩
                      have hgl := (Array.getElem?_eq_some_iff.1 HROW.out).1
                      have hrow8 := (hb8.block _ hgl).trans HROW.out
                      have s7 := HB7.out.size
                      have s8 := hb8.size
                      have hy8 : w8.heap[w4.heap.size]? = some (.cells #[.slice A5 n7 c5, .slice A6 n8 c6] 62 (0, 0)) := by rw [hb8.block w4.heap.size (by omega), HB7.out.block w4.heap.size (by omega)]; exact HYU.out
                      have g0 := (cell_of_row w8 g 0 _ _ _ hrow8).trans (show _ = some (Value.slice A7 n7 c7) from rfl)
                      have g1 := (cell_of_row w8 g 1 _ _ _ hrow8).trans (show _ = some (Value.slice A8 n8 c8) from rfl)
                      have y0 := (cell_of_row w8 w4.heap.size 0 _ _ _ hy8).trans (show _ = some (Value.slice A5 n7 c5) from rfl)
                      have y1 := (cell_of_row w8 w4.heap.size 1 _ _ _ hy8).trans (show _ = some (Value.slice A6 n8 c6) from rfl)
                      have y2 := frozen_of_row w8 w4.heap.size 0 _ _ hy8
                      have y3 := frozen_of_row w8 w4.heap.size 1 _ _ hy8
                      have HY8 := Lib.hid hy8; clear hy8
                      have HB8 := Lib.hid hb8; clear hb8
                      clear hrow8
                      go_wp2
                      have hk8 : Keeps (fun b => wo.heap.size ≤ b ∧ b ≠ w4.heap.size) w8 ((w8.setCell ⟨w4.heap.size, 0, none⟩ (.slice A7 n7 c7)).setCell ⟨w4.heap.size, 1, none⟩ (.slice A8 n8 c8)) := ((Keeps.refl _ _).setCell (fun h => h.2 rfl) _).setCell (fun h => h.2 rfl) _
                      have hB8 : Below w4.heap.size w9 w8 := ((HBX.out.trans (HBU.out.mono (by omega))).trans (HB7.out.mono (by omega))).trans (HB8.out.mono (by omega))
                      exact ⟨⟨i + 1, A7, c7, A8, c8, by omega, by go_num, row_set2 HY8.out, ((H7.out.all HB8.out).mono (fun b hb _ => ⟨by omega, by omega⟩)).keep hk8, ((H8.out.all HB8.out).mono (fun b hb _ => ⟨by omega, by omega⟩)).keep hk8, (hB8.setCell (Nat.le_refl _) _).setCell (Nat.le_refl _) _⟩, by simp [intOf]; omega⟩
              · obtain rfl : i = nl := by omega
                have hpv : wv.heap[w.heap.size]? = some (.cells #[.slice A0 n3 c0, .slice A1 n1 c1, .slice A2 n2 c2] 112 (0, 0)) := by rw [HBV.out.block w.heap.size (by omega)]; exact HP9.out
                have p0 := (cell_of_row wv w.heap.size 0 _ _ _ hpv).trans (show _ = some (Value.slice A0 n3 c0) from rfl)
                have p1 := (cell_of_row wv w.heap.size 1 _ _ _ hpv).trans (show _ = some (Value.slice A1 n1 c1) from rfl)
                have y0 := (cell_of_row wv w4.heap.size 0 _ _ _ HYV.out).trans (show _ = some (Value.slice A5 n3 c5) from rfl)
                have y1 := (cell_of_row wv w4.heap.size 1 _ _ _ HYV.out).trans (show _ = some (Value.slice A6 n4 c6) from rfl)
                have hBwv : Below w.heap.size w wv := HBW9.out.trans (HBV.out.mono (by omega))
                have heq := EqSlots_c (w := wv) (x := backX x i i) (y := x) H5.out H6.out (h0.all hBwv) (h1.all hBwv)
                rw [decide_eq_true (backX_all hE)] at heq
                have hBv3 : Below w3.heap.size w3 wv := HB9.out.trans (HBV.out.mono (by omega))
                have HBV3 := Lib.hid hBv3
                clear hpv hBwv hBv3
                go_wp2_with fail
                refine heq.mono ?_
                rintro e w8 ⟨rfl, hb8⟩
                clear heq
                have HB8 := Lib.hid hb8; clear hb8
                go_wp2
                (refine ⟨?_, ?measure⟩; (repeat apply Exists.intro); refine ⟨?rel, rfl⟩)
                case rel => exact ⟨i + 1, by omega, by omega, by go_num, HBV3.out.trans (HB8.out.mono (by have := HBV3.out.size; omega))⟩
                case measure => simp [intOf]; omega
          · have hne : takeErr x k [] ≠ 0 := hE
            rw [takeR_err (n := (k : Int)) (not := []) ⟨slotsOkB_true HX.out, by omega, by omega⟩ hE] at ht
            rw [show ((k : Nat) : Int).toNat = k from rfl] at ht
            go_wp2_with fail
            refine ht.mono ?_
            clear ht
            rintro e w4 ⟨Al, nl, cl, A3, n3, c3, A4, n4, c4, rfl, hl, h3, h4, hb4⟩
            generalize takeErr x k [] = er at *
            have s4 := hb4.size
            go_wp2_with fail
            refine num_c.mono ?_
            rintro e w5 ⟨rfl, hb5⟩
            have s5 := hb5.size
            simp at s5
            go_wp2
            (refine ⟨?_, ?measure⟩; (repeat apply Exists.intro); refine ⟨?rel, rfl⟩)
            case rel => clear hBw; exact ⟨k + 1, by omega, by omega, by go_num, (by repeat' (first | (with_reducible exact Below.refl _ _) | (with_reducible refine Below.alloc ?_ ?_ _) | (with_reducible refine Below.drew ?_) | (with_reducible refine below_drewN ?_ _) | (with_reducible refine Below.setCell ?_ ?_ _) | (refine via ?_ (by with_reducible assumption) ?_) | (refine via ?_ (below_ext _ _) ?_) | go_size))⟩
            case measure => simp [intOf]; omega
        · go_wp2_with fail
          refine wakes_c.mono ?_
          rintro e w5 ⟨rfl, hb5⟩
          go_wp2
          go_ret
          exact ⟨rfl, (by repeat' (first | (with_reducible exact Below.refl _ _) | (with_reducible refine Below.alloc ?_ ?_ _) | (with_reducible refine Below.drew ?_) | (with_reducible refine below_drewN ?_ _) | (with_reducible refine Below.setCell ?_ ?_ _) | (refine via ?_ (by with_reducible assumption) ?_) | (refine via ?_ (below_ext _ _) ?_) | go_size))⟩
end Go.Proofs.Ytfccghfcilccfaa
