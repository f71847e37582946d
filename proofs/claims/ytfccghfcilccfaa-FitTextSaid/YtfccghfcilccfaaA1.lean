/- siloref11.New: the page's own new slots are the same. -/
import Derived.Test.YtfccghfcilccfaaT8
import Derived.Test.YtfccghfcilccfaaS4
namespace Go.Proofs.Ytfccghfcilccfaa
open Go.RowKit Go.Silo

/-- The worlds between the steps of 'x.Free = append(x.Free, first(n))'. -/
def WdRefNew (base g1 n k : Nat) (wr : World) (A0 : Option Addr) (c0 : Nat) (A1 : Option Addr) (c1 : Nat) (us : List Value) (w : World) : Prop :=
  match us with
  | [] => Below base wr w ∧ NF base n (k + 1) k A0 c0 A1 c1 w
  | [v] => Below base wr w ∧ NF base n (k + 1) k A0 c0 A1 c1 w ∧ ∃ AR cR Sr, v = .slice AR n cR ∧ Sl true 3 intE w Sr AR n cR (upto n) ∧ (∀ b, Sr b → base ≤ b ∧ b < w.heap.size ∧ some b ≠ ablk A0 ∧ some b ≠ ablk A1)
  | [v, x] => Below base wr w ∧ NF base n (k + 1) k A0 c0 A1 c1 w ∧ ∃ AR cR Sr, v = .slice AR n cR ∧ Sl true 3 intE w Sr AR n cR (upto n) ∧ (∀ b, Sr b → base ≤ b ∧ b < w.heap.size ∧ some b ≠ ablk A0 ∧ some b ≠ ablk A1) ∧
      ∃ b, x = .slice (some ⟨b, 0, none⟩) 1 1 ∧ w.heap[b]? = some (.cells #[v] 52 (0, 0))
  | [_, _, x] => Below base wr w ∧ ∃ A1' c1', x = .slice A1' (k + 1) c1' ∧ NF base n (k + 1) (k + 1) A0 c0 A1' c1' w
  | _ => ∃ w6 A1' c1', Below base wr w6 ∧ w = w6.setCell ⟨g1, 1, none⟩ (.slice A1' (k + 1) c1') ∧ NF base n (k + 1) (k + 1) A0 c0 A1' c1' w6

theorem box_set0 {w : World} {g : Nat} {a b u : Value} {T : TypeId} (h : w.heap[g]? = some (.cells #[a, b] T (0, 0))) : (w.setCell ⟨g, 0, none⟩ u).heap[g]? = some (.cells #[u, b] T (0, 0)) := by
  simp only [World.setCell, Array.getElem?_modify, h]
  simp
theorem box_set1 {w : World} {g : Nat} {a b v : Value} {T : TypeId} (h : w.heap[g]? = some (.cells #[a, b] T (0, 0))) : (w.setCell ⟨g, 1, none⟩ v).heap[g]? = some (.cells #[a, v] T (0, 0)) := by
  simp only [World.setCell, Array.getElem?_modify, h]
  simp

set_option maxRecDepth 100000 in
set_option maxHeartbeats 4000000 in
theorem refNew_c {w : World} {d n : Nat} (hd : d ≤ 1000000) (hn : n ≤ 1000000) : Calls Try.prog 35 #[.int .i64 (d : Int), .int .i64 (n : Int)] w (RetE (slotsDE true) w (newX d n)) := by
  obtain ⟨i0, hi0, hy0, hy1, hy2⟩ := info_parts Try.info_Bool
  obtain ⟨i1, hi1, hz0, hz1, hz2⟩ := info_parts Try.info_Ints
  go_enter Try.func35, Try.ntmps35
  go_wp2_with fail
  go_loopw [6] (fun i wr => ∃ k : Nat, ∃ A0 c0 A1 c1, k ≤ d ∧ i = .int .i64 k ∧ wr.heap[w.heap.size + 1]? = some (.cells #[.slice A0 k c0, .slice A1 k c1] 62 (0, 0)) ∧ wr.heap[w.heap.size]? = some (.cells #[.slice none 0 0, .slice none 0 0] 62 (0, 0)) ∧
      NF (w.heap.size + 2) n k k A0 c0 A1 c1 wr ∧ Below w.heap.size w wr ∧ w.heap.size + 2 ≤ wr.heap.size) (fun i _ => d - (intOf i).toNat)
  case atStart => exact ⟨0, none, 0, none, 0, Nat.zero_le _, rfl, alloc2 _ _ _ _, alloc2' _ _ _ _, ⟨Own.nil_, fun _ => False, Own.nil_, fun b h => h.elim, fun b h => by cases h⟩, (by repeat' (first | (with_reducible exact Below.refl _ _) | (with_reducible refine Below.alloc ?_ ?_ _) | (with_reducible refine Below.drew ?_) | (with_reducible refine below_drewN ?_ _) | (with_reducible refine Below.setCell ?_ ?_ _) | (refine via ?_ (by with_reducible assumption) ?_) | (refine via ?_ (below_ext _ _) ?_) | go_size)), by simp⟩
  case round =>
    obtain ⟨k, A0, c0, A1, c1, hk, rfl, hbox, hres, hnf, hB, hsz⟩ := hrel
    rename World => wo
    by_cases hlt : k < d
    · have b0 := (cell_of_row wo (w.heap.size + 1) 0 _ _ _ hbox).trans (show _ = some (Value.slice A0 k c0) from rfl)
      have b2 := frozen_of_row wo (w.heap.size + 1) 0 _ _ hbox
      have HB := Lib.hid hB; clear hB
      have HNF := Lib.hid hnf; clear hnf
      have HBOX := Lib.hid hbox; clear hbox
      have HRES := Lib.hid hres; clear hres
      go_wp2_with (at_builtin; refine wpList_append1 rfl _ _ 30 rfl i0 (.bool false) 1 Try.underlying30 hi0 hy0 hy1 hy2 rfl (by decide) rfl ((HNF.out.1).frame (Agree.alloc _ _ _) (by simp)) wo.heap.size 4 1 _ true rfl (heap_alloc_new _ _) ⟨rfl, trivial⟩ (by omega) (by omega) (by simp; omega) ?_)
      intro A7 c7 w7 hown7 hg7 hat7
      have s7 := hg7.size
      simp at s7
      have hlow7 : ∀ b, b < w.heap.size + 2 → w7.heap[b]? = wo.heap[b]? := fun b hb => (hg7.block b (by simp; omega) (fun e => by have := (HNF.out.1.lt b e.symm).1; omega)).trans (Below.heap_alloc _ _ _ (by omega))
      have HNF7 : Hid (NF (w.heap.size + 2) n (k + 1) k A7 c7 A1 c1 w7) := Lib.hid ((HNF.out.frame (w' := wo.alloc (.cells #[.bool true] 4)) (fun b _ hlt => Below.heap_alloc _ _ b hlt) (by simp)).live hown7 hg7 (by
        rcases hat7 with h | h
        · exact .inl h
        · exact .inr (by simpa using h)))
      have hb7 := (hlow7 (w.heap.size + 1) (by omega)).trans HBOX.out
      have c0' := (cell_of_row w7 (w.heap.size + 1) 0 _ _ _ hb7).trans (show _ = some (Value.slice A0 k c0) from rfl)
      have c2' := frozen_of_row w7 (w.heap.size + 1) 0 _ _ hb7
      have HB7 : Hid (Below w.heap.size w w7) := Lib.hid ((HB.out.alloc (by omega) _).grown hg7 (by simp; omega) (fun r hr => by have := (HNF.out.1.lt r hr).1; omega))
      have HR7 : Hid (w7.heap[w.heap.size]? = some (.cells #[.slice none 0 0, .slice none 0 0] 62 (0, 0))) := Lib.hid ((hlow7 w.heap.size (by omega)).trans HRES.out)
      have HX7 := Lib.hid hb7
      clear hown7 hg7 hat7 b0 b2 hlow7 hb7 HB HNF HBOX HRES
      go_wp2_with fail
      have hx8 : (w7.setCell ⟨w.heap.size + 1, 0, none⟩ (.slice A7 (k + 1) c7)).heap[w.heap.size + 1]? = some (.cells #[.slice A7 (k + 1) c7, .slice A1 k c1] 62 (0, 0)) := box_set0 HX7.out
      have hr8 : (w7.setCell ⟨w.heap.size + 1, 0, none⟩ (.slice A7 (k + 1) c7)).heap[w.heap.size]? = some (.cells #[.slice none 0 0, .slice none 0 0] 62 (0, 0)) := by rw [Below.heap_setCell _ _ _ _ (by simp)]; exact HR7.out
      have hn8 : NF (w.heap.size + 2) n (k + 1) k A7 c7 A1 c1 (w7.setCell ⟨w.heap.size + 1, 0, none⟩ (.slice A7 (k + 1) c7)) := HNF7.out.frame (fun b hb _ => Below.heap_setCell _ _ _ _ (by simp; omega)) (by simp)
      have hB8 : Below w.heap.size w (w7.setCell ⟨w.heap.size + 1, 0, none⟩ (.slice A7 (k + 1) c7)) := HB7.out.setCell (by simp) _
      have s8 : w.heap.size + 2 ≤ (w7.setCell ⟨w.heap.size + 1, 0, none⟩ (.slice A7 (k + 1) c7)).heap.size := by simp; omega
      clear c0' c2' HX7 HR7 HNF7 HB7 s7
      generalize (w7.setCell ⟨w.heap.size + 1, 0, none⟩ (.slice A7 (k + 1) c7)) = wr at *
      have b1 := (cell_of_row wr (w.heap.size + 1) 1 _ _ _ hx8).trans (show _ = some (Value.slice A1 k c1) from rfl)
      have b3 := frozen_of_row wr (w.heap.size + 1) 1 _ _ hx8
      have HB8 := Lib.hid hB8; clear hB8
      have HN8 := Lib.hid hn8; clear hn8
      have HX8 := Lib.hid hx8; clear hx8
      have HR8 := Lib.hid hr8; clear hr8
      have cells : ∀ us w6, us.length ≤ 3 → WdRefNew (w.heap.size + 2) (w.heap.size + 1) n k wr A7 c7 A1 c1 us w6 → Below (w.heap.size + 2) wr w6 := by
        intro us w6 hl hW
        match us, hl, hW with
        | [], _, hW => exact hW.1
        | [_], _, hW => exact hW.1
        | [_, _], _, hW => exact hW.1
        | [_, _, _], _, hW => exact hW.1
      have CELLS := Lib.hid cells; clear cells
      refine region_row (by kernel_rfl) (by kernel_rfl) 25 rfl [17, 18, 19, 20, 21, 22, 23] [3, 4, 5, 7] [(20, 0), (21, 1), (22, 2)]
        [(17, .pointer (some ⟨w.heap.size + 1, 1, none⟩)), (18, .slice A1 k c1), (19, .int .i64 (n : Int)), (23, .pointer (some ⟨w.heap.size + 1, 1, none⟩))]
        (fun i => if i == 1 then 3 else 4) [[], [17], [], [19], [20], [18, 21], [], [23, 22]] (WdRefNew (w.heap.size + 2) (w.heap.size + 1) n k wr A7 c7 A1 c1) (by kernel_rfl) ?_ ⟨?_, ?_, ?_, ?_, ?_, ?_, ?_, ?_, trivial⟩ ?_
      · exact ⟨(Below.refl _ wr).drew, HN8.out.frame (fun _ _ _ => rfl) (Nat.le_refl _)⟩
      · (refine OpOk.rd rfl _ rfl (fun ρ us w6 ho ht hc hl hW => ?_); have e5 := (ho 5 rfl).trans (show _ = (.pointer (some ⟨w.heap.size + 1, 0, none⟩) : Value) from rfl); simp only [execOp, e5]; go_simp; try rfl)
      · (refine OpOk.rd rfl _ rfl (fun ρ us w6 ho ht hc hl hW => ?_); have e17 := (ht 17 (by decide)).trans (show _ = (.pointer (some ⟨w.heap.size + 1, 1, none⟩) : Value) from rfl); have hB6 := CELLS.out us w6 hl hW; have q1 := (World.cell?_of_block (a := ⟨w.heap.size + 1, 1, none⟩) (hB6.block (w.heap.size + 1) (by omega))).trans b1; simp only [execOp, e17]; go_simp; try rfl)
      · (refine OpOk.rd rfl _ rfl (fun ρ us w6 ho ht hc hl hW => ?_); have e1 := (ho 1 rfl).trans (show _ = (.int .i64 (n : Int) : Value) from rfl); simp only [execOp, e1]; go_simp; try rfl)
      · refine OpOk.wr (k := 0) rfl (fun A us w6 ho ht hl hW K hK => ?_)
        match us, hl, hW with
        | [], _, hW =>
        obtain ⟨hB6, hnf6⟩ := hW
        have e19 := (ht 19 (by decide)).trans (show _ = (.int .i64 (n : Int) : Value) from rfl)
        have hq := refFirst_c (w := w6) (n := n) (by omega)
        unfold RetOwn at hq
        rw [upto_len] at hq
        have hz6 := hB6.size
        refine step_call rfl 100 #[.tmp 19] #[3] rfl Try.func100 (by kernel_rfl) (by kernel_rfl) #[.int .i64 (n : Int)] (by simp [e19]) (hq) ?_
        rintro e w7 ⟨AR, cR, rfl, hown7, hb7⟩
        refine ⟨_, rfl, hK _ _ ⟨hB6.trans (hb7.mono (by omega)), hnf6.frame (fun b _ hlt => hb7.block b hlt) hb7.size, AR, cR, fun b => w6.heap.size ≤ b ∧ b < w7.heap.size, rfl, ((hown7.sl (tg := true)).lt_block).mono (fun b hb _ => ⟨hb.1.elim id id, hb.2⟩), fun b hb => ⟨by omega, hb.2, fun e => ?_, fun e => ?_⟩⟩⟩
        · have := (hnf6.1.lt b e.symm).2; omega
        · obtain ⟨_, S, h1, _⟩ := hnf6; have := (h1.lt b e.symm).2; omega
      · refine OpOk.wr (k := 1) rfl (fun A us w6 ho ht hl hW K hK => ?_)
        match us, hl, hW with
        | [v], _, hW =>
        obtain ⟨hB6, hnf6, AR, cR, Sr, rfl, hsl, hsr⟩ := hW
        have e20 := (ht 20 (by decide)).trans (show _ = (.slice AR n cR : Value) from rfl)
        rw [if_pos (by simp [Region.wanted])]
        unfold Oper.wp
        generalize A.eval = ρ at *
        simp only [execOp, List.map_toArray, List.map_cons, List.map_nil, e20]
        go_simp
        exact hK _ _ ⟨hB6.alloc (Nat.le_trans s8 hB6.size) _, hnf6.frame (fun b _ hlt => Below.heap_alloc _ _ b hlt) (by simp), AR, cR, Sr, rfl, hsl.frame (Agree.alloc _ _ _) (by simp), fun b hb => ⟨(hsr b hb).1, by have := (hsr b hb).2.1; simp; omega, (hsr b hb).2.2⟩, _, rfl, heap_alloc_new _ _⟩
      · refine OpOk.wr (k := 2) rfl (fun A us w6 ho ht hl hW K hK => ?_)
        match us, hl, hW with
        | [v, x], _, hW =>
        obtain ⟨hB6, ⟨h0, S, h1, h2, h3⟩, AR, cR, Sr, rfl, hsl, hsr, b, rfl, hb⟩ := hW
        have e18 := (ht 18 (by decide)).trans (show _ = (.slice A1 k c1 : Value) from rfl)
        have e21 := (ht 21 (by decide)).trans (show _ = (.slice (some ⟨b, 0, none⟩) 1 1 : Value) from rfl)
        have hz6 := hB6.size
        refine step_append1 rfl (.tmp 18) (.tmp 21) 60 rfl i1 (.slice none 0 0) 24 Try.underlying60 hi1 hz0 hz1 hz2 rfl (by decide) e18 (h1.mono (S' := fun b => S b ∨ Sr b) (fun b hb _ => .inl hb)) b 52 1 _ (upto n) e21 hb ⟨AR, n, cR, rfl, hsl.mono (fun b hb _ => ⟨.inr hb, (hsr b hb).2.2.2⟩)⟩ (by omega) (by omega) (by omega) ?_
        intro A9 c9 w9 hown9 hg9 hat9
        exact hK _ _ ⟨hB6.grown hg9 (Nat.le_trans s8 hB6.size) (fun r hr => (h1.lt r hr).1), A9, c9, rfl, NF.free h0 (fun b hb => hb.elim (h2 b) (fun hb => ⟨(hsr b hb).1, (hsr b hb).2.1, (hsr b hb).2.2.1⟩)) h3 hown9 hg9 hat9⟩
      · (refine OpOk.rd rfl _ rfl (fun ρ us w6 ho ht hc hl hW => ?_); have e5 := (ho 5 rfl).trans (show _ = (.pointer (some ⟨w.heap.size + 1, 0, none⟩) : Value) from rfl); simp only [execOp, e5]; go_simp; try rfl)
      · refine OpOk.wr (k := 3) rfl (fun A us w6 ho ht hl hW K hK => ?_)
        match us, hl, hW with
        | [v, x, y], _, hW =>
        obtain ⟨hB6, A1', c1', rfl, hnf6⟩ := hW
        have e23 := (ht 23 (by decide)).trans (show _ = (.pointer (some ⟨w.heap.size + 1, 1, none⟩) : Value) from rfl)
        have e22 := (ht 22 (by decide)).trans (show _ = (.slice A1' (k + 1) c1' : Value) from rfl)
        have hblk := hB6.block (w.heap.size + 1) (by omega)
        have q1 := (World.cell?_of_block (a := ⟨w.heap.size + 1, 1, none⟩) hblk).trans b1
        have q3 := (World.frozen?_of_block (a := ⟨w.heap.size + 1, 1, none⟩) hblk).trans b3
        rw [if_pos (by simp [Region.wanted])]
        unfold Oper.wp
        generalize A.eval = ρ at *
        simp only [execOp, e23, e22]
        go_simp
        exact hK undef _ ⟨w6, A1', c1', hB6, rfl, hnf6⟩
      · intro us w9 hl hW
        match us, hl, hW with
        | [v, x, y, z], _, hW =>
        obtain ⟨w5, A1', c1', hB6, rfl, hnf6⟩ := hW
        simp only [putAll, List.map_cons, List.map_nil, List.foldl_cons, List.foldl_nil, Act.put, List.setIfInBounds_toArray, List.set_cons_succ, List.set_cons_zero]
        generalize slotVal _ _ [v, x, y, z] = sv
        have HB6 := Lib.hid hB6; clear hB6
        have HNF6 := Lib.hid hnf6; clear hnf6
        go_wp2
        go_roundw
        case rel =>
          have hB6 := HB6.out
          have hz6 := hB6.size
          have hB8 := HB8.out
          refine ⟨k + 1, A7, c7, A1', c1', by omega, by go_num, box_set1 ((hB6.block (w.heap.size + 1) (by omega)).trans HX8.out), ?_, HNF6.out.frame (fun b hb hlt => Below.heap_setCell _ _ _ _ (by simp; omega)) (by simp), (hB8.trans (hB6.mono (by omega))).setCell (by simp) _, by simp; omega⟩
          rw [Below.heap_setCell _ _ _ _ (by simp)]
          exact (hB6.block w.heap.size (by omega)).trans HR8.out
        case measure => simp [intOf]; omega
    · obtain rfl : k = d := by omega
      have b0 := (cell_of_row wo (w.heap.size + 1) 0 _ _ _ hbox).trans (show _ = some (Value.slice A0 k c0) from rfl)
      have b1 := (cell_of_row wo (w.heap.size + 1) 1 _ _ _ hbox).trans (show _ = some (Value.slice A1 k c1) from rfl)
      have r0 := (cell_of_row wo w.heap.size 0 _ _ _ hres).trans (show _ = some (Value.slice none 0 0) from rfl)
      have r1 := (cell_of_row wo w.heap.size 1 _ _ _ hres).trans (show _ = some (Value.slice none 0 0) from rfl)
      have r2 := frozen_of_row wo w.heap.size 0 _ _ hres
      have r3 := frozen_of_row wo w.heap.size 1 _ _ hres
      have HB := Lib.hid hB; clear hB
      have HNF := Lib.hid hnf; clear hnf
      clear hbox hres
      go_wp2
      refine bodyPost_ret (v := .agg #[.slice A0 k c0, .slice A1 k c1]) (by simp [results, Try.results35, go_sem, *]; done) rfl ?_
      obtain ⟨h0, S, h1, h2', h3'⟩ := (HNF.out.frame (w' := (wo.setCell ⟨w.heap.size, 0, none⟩ (.slice A0 k c0)).setCell ⟨w.heap.size, 1, none⟩ (.slice A1 k c1)) (fun b hb hlt => by rw [Below.heap_setCell _ _ _ _ (by simp; omega), Below.heap_setCell _ _ _ _ (by simp; omega)]) (by simp))
      have hB := HB.out
      exact ⟨_, rfl, ⟨_, _, _, _, _, _, rfl, trivial, (h0.sl (tg := true)).mono (fun b hb _ => by rcases hb with hb | hb; exact hb.elim; omega), (h1.sl (tg := true)).mono (fun b hb _ => by rcases hb with hb | hb; (have := (h2' b hb).1; omega); omega)⟩, (hB.setCell (by simp) _).setCell (by simp) _⟩
end Go.Proofs.Ytfccghfcilccfaa
