/- slots.New. -/
import Derived.Test.YtfccghfcilccfaaT2
import Derived.Test.YtfccghfcilccfaaB3
namespace Go.Proofs.Ytfccghfcilccfaa
open Go.RowKit Go.Silo

/-- Two rows of one's own: disks that live, free slots; they and the lists within lie apart. -/
def NF (base n k0 k1 : Nat) (A0 : Option Addr) (c0 : Nat) (A1 : Option Addr) (c1 : Nat) (w : World) : Prop :=
  Own 4 boolE w base (fun _ => False) A0 k0 c0 (List.replicate k0 true) ∧
  ∃ S : Nat → Prop, Own 52 (slE true 3 intE) w base S A1 k1 c1 (List.replicate k1 (upto n)) ∧ (∀ b, S b → base ≤ b ∧ b < w.heap.size ∧ some b ≠ ablk A0) ∧ (∀ b, ablk A0 = some b → ablk A1 ≠ some b)
theorem NF.frame {base n k0 k1 : Nat} {A0 A1 : Option Addr} {c0 c1 : Nat} {w w' : World} (h : NF base n k0 k1 A0 c0 A1 c1 w) (ha : ∀ b, base ≤ b → b < w.heap.size → w'.heap[b]? = w.heap[b]?) (hs : w.heap.size ≤ w'.heap.size) : NF base n k0 k1 A0 c0 A1 c1 w' := by
  obtain ⟨h0, S, h1, h2, h3⟩ := h
  refine ⟨h0.frame (fun b hb hlt => ?_) hs, S, h1.frame (fun b hb hlt => ?_) hs, fun b hb => ?_, h3⟩
  · rcases hb with hb | hb
    · exact hb.elim
    · exact ha b (h0.lt b hb.symm).1 hlt
  · rcases hb with hb | hb
    · exact ha b (h2 b hb).1 hlt
    · exact ha b (h1.lt b hb.symm).1 hlt
  · have := h2 b hb; exact ⟨this.1, by omega, this.2.2⟩
theorem NF.live {base n k0 k1 : Nat} {A0 A1 A0' : Option Addr} {c0 c1 c0' : Nat} {w w' : World} (h : NF base n k0 k1 A0 c0 A1 c1 w) (ho : Own 4 boolE w' base (fun _ => False) A0' (k0 + 1) c0' (List.replicate k0 true ++ [true])) (hg : w.grownBy w' (ablk A0))
    (hat : ablk A0' = ablk A0 ∨ ablk A0' = some w.heap.size) : NF base n (k0 + 1) k1 A0' c0' A1 c1 w' := by
  obtain ⟨h0, S, h1, h2, h3⟩ := h
  rw [← List.replicate_succ'] at ho
  refine ⟨ho, S, h1.frame (fun b hb hlt => ?_) hg.size, fun b hb => ?_, fun b hb => ?_⟩
  · refine hg.block b hlt ?_
    rcases hb with hb | hb
    · exact (h2 b hb).2.2
    · exact fun e => h3 b e.symm hb.symm
  · have := h2 b hb
    refine ⟨this.1, by have := hg.size; omega, ?_⟩
    rcases hat with e | e
    · rw [e]; exact this.2.2
    · rw [e]; intro e2; injection e2 with e2; omega
  · rcases hat with e | e
    · exact h3 b (e.symm.trans hb)
    · intro e2
      have := (h1.lt b e2).2
      rw [e] at hb
      injection hb with hb
      omega
theorem NF.free {base n k0 k1 : Nat} {A0 A1 A1' : Option Addr} {c0 c1' : Nat} {w w' : World} {S : Nat → Prop} (h0 : Own 4 boolE w base (fun _ => False) A0 k0 c0 (List.replicate k0 true)) (h2 : ∀ b, S b → base ≤ b ∧ b < w.heap.size ∧ some b ≠ ablk A0) (h3 : ∀ b, ablk A0 = some b → ablk A1 ≠ some b)
    (ho : Own 52 (slE true 3 intE) w' base S A1' (k1 + 1) c1' (List.replicate k1 (upto n) ++ [upto n])) (hg : w.grownBy w' (ablk A1))
    (hat : ablk A1' = ablk A1 ∨ ablk A1' = some w.heap.size) : NF base n k0 (k1 + 1) A0 c0 A1' c1' w' := by
  rw [← List.replicate_succ'] at ho
  refine ⟨h0.frame (fun b hb hlt => ?_) hg.size, S, ho, fun b hb => ?_, fun b hb => ?_⟩
  · rcases hb with hb | hb
    · exact hb.elim
    · exact hg.block b hlt (fun e => h3 b hb.symm e.symm)
  · have := h2 b hb
    exact ⟨this.1, by have := hg.size; omega, this.2.2⟩
  · rcases hat with e | e
    · rw [e]; exact h3 b hb
    · rw [e]; intro e2; injection e2 with e2
      have := (h0.lt b hb).2
      omega

/-- The worlds between the steps of 'x.Live, x.Free = append(..), append(..)'. -/
def WdNew (base g1 n k : Nat) (wr : World) (A0 : Option Addr) (c0 : Nat) (A1 : Option Addr) (c1 : Nat) (us : List Value) (w : World) : Prop :=
  match us with
  | [] => Below base wr w ∧ NF base n k k A0 c0 A1 c1 w
  | [u] => Below base wr w ∧ NF base n k k A0 c0 A1 c1 w ∧ ∃ b, u = .slice (some ⟨b, 0, none⟩) 1 1 ∧ w.heap[b]? = some (.cells #[.bool true] 4 (0, 0))
  | [_, u] => Below base wr w ∧ ∃ A0' c0', u = .slice A0' (k + 1) c0' ∧ NF base n (k + 1) k A0' c0' A1 c1 w
  | [_, u, v] => Below base wr w ∧ ∃ A0' c0', u = .slice A0' (k + 1) c0' ∧ NF base n (k + 1) k A0' c0' A1 c1 w ∧ ∃ AR cR Sr, v = .slice AR n cR ∧ Sl true 3 intE w Sr AR n cR (upto n) ∧ (∀ b, Sr b → base ≤ b ∧ b < w.heap.size ∧ some b ≠ ablk A0' ∧ some b ≠ ablk A1)
  | [_, u, v, x] => Below base wr w ∧ ∃ A0' c0', u = .slice A0' (k + 1) c0' ∧ NF base n (k + 1) k A0' c0' A1 c1 w ∧ ∃ AR cR Sr, v = .slice AR n cR ∧ Sl true 3 intE w Sr AR n cR (upto n) ∧ (∀ b, Sr b → base ≤ b ∧ b < w.heap.size ∧ some b ≠ ablk A0' ∧ some b ≠ ablk A1) ∧
      ∃ b, x = .slice (some ⟨b, 0, none⟩) 1 1 ∧ w.heap[b]? = some (.cells #[v] 52 (0, 0))
  | [_, u, _, _, x] => Below base wr w ∧ ∃ A0' c0' A1' c1', u = .slice A0' (k + 1) c0' ∧ x = .slice A1' (k + 1) c1' ∧ NF base n (k + 1) (k + 1) A0' c0' A1' c1' w
  | [_, _, _, _, x, _] => ∃ w6 A0' c0' A1' c1', Below base wr w6 ∧ w = w6.setCell ⟨g1, 0, none⟩ (.slice A0' (k + 1) c0') ∧ x = .slice A1' (k + 1) c1' ∧ NF base n (k + 1) (k + 1) A0' c0' A1' c1' w6
  | _ => ∃ w6 A0' c0' A1' c1', Below base wr w6 ∧ w = (w6.setCell ⟨g1, 0, none⟩ (.slice A0' (k + 1) c0')).setCell ⟨g1, 1, none⟩ (.slice A1' (k + 1) c1') ∧ NF base n (k + 1) (k + 1) A0' c0' A1' c1' w6

theorem alloc2 (w : World) (o0 : Obj) (c1 : Array Value) (T1 : TypeId) : ((w.alloc o0).alloc (.cells c1 T1)).heap[w.heap.size + 1]? = some (.cells c1 T1 (0, 0)) := by
  have e1 : (w.alloc o0).heap.size = w.heap.size + 1 := by simp
  rw [← e1]; exact heap_alloc_new _ _
theorem alloc2' (w : World) (o1 : Obj) (c0 : Array Value) (T0 : TypeId) : ((w.alloc (.cells c0 T0)).alloc o1).heap[w.heap.size]? = some (.cells c0 T0 (0, 0)) := by
  rw [Below.heap_alloc _ _ _ (by simp)]; exact heap_alloc_new _ _

def newX (d n : Nat) : SlotsD := ⟨List.replicate d true, List.replicate d (upto n)⟩
/-- What New answers. -/
def newR (d n : Int) : SlotsD × Int := if 1 ≤ d ∧ d ≤ 12 ∧ 0 ≤ n ∧ n ≤ 64 then (newX d.toNat n.toNat, 0) else (⟨[], []⟩, 1)
theorem newR_bad {d n : Int} (h : ¬ (1 ≤ d ∧ d ≤ 12 ∧ 0 ≤ n ∧ n ≤ 64)) : newR d n = (⟨[], []⟩, 1) := by unfold newR; rw [if_neg h]
theorem newR_ok {d n : Nat} (h : 1 ≤ d ∧ d ≤ 12 ∧ n ≤ 64) : newR d n = (newX d n, 0) := by unfold newR; rw [if_pos (by omega)]; rfl

set_option maxRecDepth 100000 in
set_option maxHeartbeats 4000000 in
theorem New_c {w : World} {d n : Int} (hI : I64 d) (hIn : I64 n) : Calls Try.prog 81 #[.int .i64 d, .int .i64 n] w (RetSE w (newR d n)) := by
  obtain ⟨i0, hi0, hy0, hy1, hy2⟩ := info_parts Try.info_Bool
  obtain ⟨i1, hi1, hz0, hz1, hz2⟩ := info_parts Try.info_Ints
  by_cases hok : 1 ≤ d ∧ d ≤ 12 ∧ 0 ≤ n ∧ n ≤ 64
  · obtain ⟨h1, h2, h3, h4⟩ := hok
    obtain ⟨d, rfl⟩ := Int.eq_ofNat_of_zero_le (show 0 ≤ d by omega)
    obtain ⟨n, rfl⟩ := Int.eq_ofNat_of_zero_le h3
    rw [newR_ok ⟨by omega, by omega, by omega⟩]
    go_enter Try.func81, Try.ntmps81
    go_wp2_with fail
    go_loopw [23] (fun i wr => ∃ k : Nat, ∃ A0 c0 A1 c1, k ≤ d ∧ i = .int .i64 k ∧ wr.heap[w.heap.size + 1]? = some (.cells #[.slice A0 k c0, .slice A1 k c1] 62 (0, 0)) ∧ wr.heap[w.heap.size]? = some (.cells #[.slice none 0 0, .slice none 0 0] 62 (0, 0)) ∧
        NF (w.heap.size + 2) n k k A0 c0 A1 c1 wr ∧ Below w.heap.size w wr ∧ w.heap.size + 2 ≤ wr.heap.size) (fun i _ => d - (intOf i).toNat)
    case atStart => exact ⟨0, none, 0, none, 0, Nat.zero_le _, rfl, alloc2 _ _ _ _, alloc2' _ _ _ _, ⟨Own.nil_, fun _ => False, Own.nil_, fun b h => h.elim, fun b h => by cases h⟩, (by repeat' (first | (with_reducible exact Below.refl _ _) | (with_reducible refine Below.alloc ?_ ?_ _) | (with_reducible refine Below.drew ?_) | (with_reducible refine below_drewN ?_ _) | (with_reducible refine Below.setCell ?_ ?_ _) | (refine via ?_ (by with_reducible assumption) ?_) | (refine via ?_ (below_ext _ _) ?_) | go_size)), by simp⟩
    case round =>
      obtain ⟨k, A0, c0, A1, c1, hk, rfl, hbox, hres, hnf, hB, hsz⟩ := hrel
      by_cases hlt : k < d
      · have HB := Lib.hid hB; clear hB
        have HNF := Lib.hid hnf; clear hnf
        have HBOX := Lib.hid hbox; clear hbox
        have HRES := Lib.hid hres; clear hres
        have hBW : w.heap.size + 2 ≤ wr.heap.size := hsz
        have b0 := (cell_of_row wr (w.heap.size + 1) 0 _ _ _ HBOX.out).trans (show _ = some (Value.slice A0 k c0) from rfl)
        have b1 := (cell_of_row wr (w.heap.size + 1) 1 _ _ _ HBOX.out).trans (show _ = some (Value.slice A1 k c1) from rfl)
        have b2 := frozen_of_row wr (w.heap.size + 1) 0 _ _ HBOX.out
        have b3 := frozen_of_row wr (w.heap.size + 1) 1 _ _ HBOX.out
        have cells : ∀ us w6, us.length ≤ 5 → WdNew (w.heap.size + 2) (w.heap.size + 1) n k wr A0 c0 A1 c1 us w6 → Below (w.heap.size + 2) wr w6 := by
          intro us w6 hl hW
          match us, hl, hW with
          | [], _, hW => exact hW.1
          | [_], _, hW => exact hW.1
          | [_, _], _, hW => exact hW.1
          | [_, _, _], _, hW => exact hW.1
          | [_, _, _, _], _, hW => exact hW.1
          | [_, _, _, _, _], _, hW => exact hW.1
        have CELLS := Lib.hid cells; clear cells
        go_wp2_with fail
        refine region_row (by kernel_rfl) (by kernel_rfl) 39 rfl [25, 26, 27, 28, 29, 30, 31, 32, 33, 34, 35, 36] [2, 3, 7, 8, 9, 11, 13] [(27, 0), (28, 1), (32, 2), (33, 3), (34, 4)]
          [(25, .pointer (some ⟨w.heap.size + 1, 0, none⟩)), (26, .slice A0 k c0), (29, .pointer (some ⟨w.heap.size + 1, 1, none⟩)), (30, .slice A1 k c1), (31, .int .i64 (n : Int)), (35, .pointer (some ⟨w.heap.size + 1, 0, none⟩)), (36, .pointer (some ⟨w.heap.size + 1, 1, none⟩))]
          (fun i => if i == 1 || i == 5 then 5 else 7) [[], [25], [], [26, 27], [], [29], [], [31], [32], [30, 33], [], [35, 28], [], [36, 34]] (WdNew (w.heap.size + 2) (w.heap.size + 1) n k wr A0 c0 A1 c1) (by kernel_rfl) ?_ ⟨?_, ?_, ?_, ?_, ?_, ?_, ?_, ?_, ?_, ?_, ?_, ?_, ?_, ?_, trivial⟩ ?_
        · exact ⟨(Below.refl _ wr).drew, HNF.out.frame (fun _ _ _ => rfl) (Nat.le_refl _)⟩
        · (refine OpOk.rd rfl _ rfl (fun ρ us w6 ho ht hc hl hW => ?_); have e6 := (ho 6 rfl).trans (show _ = (.pointer (some ⟨w.heap.size + 1, 0, none⟩) : Value) from rfl); simp only [execOp, e6]; go_simp; try rfl)
        · (refine OpOk.rd rfl _ rfl (fun ρ us w6 ho ht hc hl hW => ?_); have e25 := (ht 25 (by decide)).trans (show _ = (.pointer (some ⟨w.heap.size + 1, 0, none⟩) : Value) from rfl); have hB6 := CELLS.out us w6 hl hW; have q0 := (World.cell?_of_block (a := ⟨w.heap.size + 1, 0, none⟩) (hB6.block (w.heap.size + 1) (by omega))).trans b0; have q1 := (World.cell?_of_block (a := ⟨w.heap.size + 1, 1, none⟩) (hB6.block (w.heap.size + 1) (by omega))).trans b1; simp only [execOp, e25]; go_simp; try rfl)
        · refine OpOk.wr (k := 0) rfl (fun A us w6 ho ht hl hW K hK => ?_)
          match us, hl, hW with
          | [], _, hW =>
          obtain ⟨hB6, hnf6⟩ := hW
          rw [if_pos (by simp [Region.wanted])]
          unfold Oper.wp
          have hcst : ∀ v, A.eval (.const v) = v := fun _ => rfl
          generalize A.eval = ρ at *
          simp only [execOp, List.map_toArray, List.map_cons, List.map_nil, hcst]
          go_simp
          exact hK _ _ ⟨hB6.alloc (Nat.le_trans hBW hB6.size) _, hnf6.frame (fun b _ hlt => Below.heap_alloc _ _ b hlt) (by simp), _, rfl, heap_alloc_new _ _⟩
        · refine OpOk.wr (k := 1) rfl (fun A us w6 ho ht hl hW K hK => ?_)
          match us, hl, hW with
          | [u], _, hW =>
          obtain ⟨hB6, hnf6, b, rfl, hb⟩ := hW
          have e26 := (ht 26 (by decide)).trans (show _ = (.slice A0 k c0 : Value) from rfl)
          have e27 := (ht 27 (by decide)).trans (show _ = (.slice (some ⟨b, 0, none⟩) 1 1 : Value) from rfl)
          have hz6 := hB6.size
          refine step_append1 rfl (.tmp 26) (.tmp 27) 30 rfl i0 (.bool false) 1 Try.underlying30 hi0 hy0 hy1 hy2 rfl (by decide) e26 hnf6.1 b 4 1 _ true e27 hb ⟨rfl, trivial⟩ (by omega) (by omega) (by omega) ?_
          intro A7 c7 w7 hown7 hg7 hat7
          exact hK _ _ ⟨hB6.grown hg7 (Nat.le_trans hBW hB6.size) (fun r hr => (hnf6.1.lt r hr).1), A7, c7, rfl, hnf6.live hown7 hg7 hat7⟩
        · (refine OpOk.rd rfl _ rfl (fun ρ us w6 ho ht hc hl hW => ?_); have e6 := (ho 6 rfl).trans (show _ = (.pointer (some ⟨w.heap.size + 1, 0, none⟩) : Value) from rfl); simp only [execOp, e6]; go_simp; try rfl)
        · (refine OpOk.rd rfl _ rfl (fun ρ us w6 ho ht hc hl hW => ?_); have e29 := (ht 29 (by decide)).trans (show _ = (.pointer (some ⟨w.heap.size + 1, 1, none⟩) : Value) from rfl); have hB6 := CELLS.out us w6 hl hW; have q0 := (World.cell?_of_block (a := ⟨w.heap.size + 1, 0, none⟩) (hB6.block (w.heap.size + 1) (by omega))).trans b0; have q1 := (World.cell?_of_block (a := ⟨w.heap.size + 1, 1, none⟩) (hB6.block (w.heap.size + 1) (by omega))).trans b1; simp only [execOp, e29]; go_simp; try rfl)
        · (refine OpOk.rd rfl _ rfl (fun ρ us w6 ho ht hc hl hW => ?_); have e1 := (ho 1 rfl).trans (show _ = (.int .i64 (n : Int) : Value) from rfl); simp only [execOp, e1]; go_simp; try rfl)
        · refine OpOk.wr (k := 2) rfl (fun A us w6 ho ht hl hW K hK => ?_)
          match us, hl, hW with
          | [u0, u], _, hW =>
          obtain ⟨hB6, A0', c0', rfl, hnf6⟩ := hW
          have e31 := (ht 31 (by decide)).trans (show _ = (.int .i64 (n : Int) : Value) from rfl)
          have hq := All_c (w := w6) (n := n) (by omega)
          unfold RetOwn at hq
          rw [upto_len] at hq
          have hz6 := hB6.size
          refine step_call rfl 129 #[.tmp 31] #[3] rfl Try.func129 (by kernel_rfl) (by kernel_rfl) #[.int .i64 (n : Int)] (by simp [e31]) (hq) ?_
          rintro e w7 ⟨AR, cR, rfl, hown7, hb7⟩
          refine ⟨_, rfl, hK _ _ ⟨hB6.trans (hb7.mono (by omega)), A0', c0', rfl, hnf6.frame (fun b _ hlt => hb7.block b hlt) hb7.size, AR, cR, fun b => w6.heap.size ≤ b ∧ b < w7.heap.size, rfl, ((hown7.sl (tg := true)).lt_block).mono (fun b hb _ => ⟨hb.1.elim id id, hb.2⟩), fun b hb => ⟨by omega, hb.2, fun e => ?_, fun e => ?_⟩⟩⟩
          · have := (hnf6.1.lt b e.symm).2; omega
          · obtain ⟨_, S, h1, _⟩ := hnf6; have := (h1.lt b e.symm).2; omega
        · refine OpOk.wr (k := 3) rfl (fun A us w6 ho ht hl hW K hK => ?_)
          match us, hl, hW with
          | [u0, u, v], _, hW =>
          obtain ⟨hB6, A0', c0', rfl, hnf6, AR, cR, Sr, rfl, hsl, hsr⟩ := hW
          have e32 := (ht 32 (by decide)).trans (show _ = (.slice AR n cR : Value) from rfl)
          rw [if_pos (by simp [Region.wanted])]
          unfold Oper.wp
          generalize A.eval = ρ at *
          simp only [execOp, List.map_toArray, List.map_cons, List.map_nil, e32]
          go_simp
          exact hK _ _ ⟨hB6.alloc (Nat.le_trans hBW hB6.size) _, A0', c0', rfl, hnf6.frame (fun b _ hlt => Below.heap_alloc _ _ b hlt) (by simp), AR, cR, Sr, rfl, hsl.frame (Agree.alloc _ _ _) (by simp), fun b hb => ⟨(hsr b hb).1, by have := (hsr b hb).2.1; simp; omega, (hsr b hb).2.2⟩, _, rfl, heap_alloc_new _ _⟩
        · refine OpOk.wr (k := 4) rfl (fun A us w6 ho ht hl hW K hK => ?_)
          match us, hl, hW with
          | [u0, u, v, x], _, hW =>
          obtain ⟨hB6, A0', c0', rfl, ⟨h0, S, h1, h2, h3⟩, AR, cR, Sr, rfl, hsl, hsr, b, rfl, hb⟩ := hW
          have e30 := (ht 30 (by decide)).trans (show _ = (.slice A1 k c1 : Value) from rfl)
          have e33 := (ht 33 (by decide)).trans (show _ = (.slice (some ⟨b, 0, none⟩) 1 1 : Value) from rfl)
          have hz6 := hB6.size
          refine step_append1 rfl (.tmp 30) (.tmp 33) 60 rfl i1 (.slice none 0 0) 24 Try.underlying60 hi1 hz0 hz1 hz2 rfl (by decide) e30 (h1.mono (S' := fun b => S b ∨ Sr b) (fun b hb _ => .inl hb)) b 52 1 _ (upto n) e33 hb ⟨AR, n, cR, rfl, hsl.mono (fun b hb _ => ⟨.inr hb, (hsr b hb).2.2.2⟩)⟩ (by omega) (by omega) (by omega) ?_
          intro A7 c7 w7 hown7 hg7 hat7
          exact hK _ _ ⟨hB6.grown hg7 (Nat.le_trans hBW hB6.size) (fun r hr => (h1.lt r hr).1), A0', c0', A7, c7, rfl, rfl, NF.free h0 (fun b hb => hb.elim (h2 b) (fun hb => ⟨(hsr b hb).1, (hsr b hb).2.1, (hsr b hb).2.2.1⟩)) h3 hown7 hg7 hat7⟩
        · (refine OpOk.rd rfl _ rfl (fun ρ us w6 ho ht hc hl hW => ?_); have e6 := (ho 6 rfl).trans (show _ = (.pointer (some ⟨w.heap.size + 1, 0, none⟩) : Value) from rfl); simp only [execOp, e6]; go_simp; try rfl)
        · refine OpOk.wr (k := 5) rfl (fun A us w6 ho ht hl hW K hK => ?_)
          match us, hl, hW with
          | [u0, u, v, x, y], _, hW =>
          obtain ⟨hB6, A0', c0', A1', c1', rfl, rfl, hnf6⟩ := hW
          have e35 := (ht 35 (by decide)).trans (show _ = (.pointer (some ⟨w.heap.size + 1, 0, none⟩) : Value) from rfl)
          have e28 := (ht 28 (by decide)).trans (show _ = (.slice A0' (k + 1) c0' : Value) from rfl)
          have hblk := hB6.block (w.heap.size + 1) (by omega)
          have q0 := (World.cell?_of_block (a := ⟨w.heap.size + 1, 0, none⟩) hblk).trans b0
          have q1 := (World.cell?_of_block (a := ⟨w.heap.size + 1, 1, none⟩) hblk).trans b1
          have q2 := (World.frozen?_of_block (a := ⟨w.heap.size + 1, 0, none⟩) hblk).trans b2
          have q3 := (World.frozen?_of_block (a := ⟨w.heap.size + 1, 1, none⟩) hblk).trans b3
          rw [if_pos (by simp [Region.wanted])]
          unfold Oper.wp
          generalize A.eval = ρ at *
          simp only [execOp, e35, e28]
          go_simp
          exact hK undef _ ⟨w6, A0', c0', A1', c1', hB6, rfl, rfl, hnf6⟩
        · (refine OpOk.rd rfl _ rfl (fun ρ us w6 ho ht hc hl hW => ?_); have e6 := (ho 6 rfl).trans (show _ = (.pointer (some ⟨w.heap.size + 1, 0, none⟩) : Value) from rfl); simp only [execOp, e6]; go_simp; try rfl)
        · refine OpOk.wr (k := 6) rfl (fun A us w6 ho ht hl hW K hK => ?_)
          match us, hl, hW with
          | [u0, u, v, x, y, z], _, hW =>
          obtain ⟨w5, A0', c0', A1', c1', hB6, rfl, rfl, hnf6⟩ := hW
          have e36 := (ht 36 (by decide)).trans (show _ = (.pointer (some ⟨w.heap.size + 1, 1, none⟩) : Value) from rfl)
          have e34 := (ht 34 (by decide)).trans (show _ = (.slice A1' (k + 1) c1' : Value) from rfl)
          have hblk := hB6.block (w.heap.size + 1) (by omega)
          have q0 := (World.cell?_of_block (a := ⟨w.heap.size + 1, 0, none⟩) hblk).trans b0
          have q1 := (World.cell?_of_block (a := ⟨w.heap.size + 1, 1, none⟩) hblk).trans b1
          have q2 := (World.frozen?_of_block (a := ⟨w.heap.size + 1, 0, none⟩) hblk).trans b2
          have q3 := (World.frozen?_of_block (a := ⟨w.heap.size + 1, 1, none⟩) hblk).trans b3
          rw [if_pos (by simp [Region.wanted])]
          unfold Oper.wp
          generalize A.eval = ρ at *
          simp only [execOp, e36, e34]
          go_simp
          exact hK undef _ ⟨w5, A0', c0', A1', c1', hB6, rfl, hnf6⟩
        · intro us w7 hl hW
          match us, hl, hW with
          | [u0, u, v, x, y, z, z'], _, hW =>
          obtain ⟨w5, A0', c0', A1', c1', hB6, rfl, hnf6⟩ := hW
          simp only [putAll, List.map_cons, List.map_nil, List.foldl_cons, List.foldl_nil, Act.put, List.setIfInBounds_toArray, List.set_cons_succ, List.set_cons_zero]
          generalize slotVal _ _ [u0, u, v, x, y, z, z'] = sv
          have HB6 := Lib.hid hB6; clear hB6
          have HNF6 := Lib.hid hnf6; clear hnf6
          go_wp2
          go_roundw
          case rel =>
            have hB6 := HB6.out
            have hz6 := hB6.size
            have hB := HB.out
            refine ⟨k + 1, A0', c0', A1', c1', by omega, by go_num, row_set2 ((hB6.block _ (by omega)).trans HBOX.out), ?_, HNF6.out.frame (fun b hb hlt => ?_) (by simp), ?_, by simp; omega⟩
            · rw [Below.heap_setCell _ _ _ _ (by simp), Below.heap_setCell _ _ _ _ (by simp)]
              exact (hB6.block _ (by omega)).trans HRES.out
            · rw [Below.heap_setCell _ _ _ _ (by simp; omega), Below.heap_setCell _ _ _ _ (by simp; omega)]
            · exact ((hB.trans (hB6.mono (by omega))).setCell (by simp) _).setCell (by simp) _
          case measure => simp [intOf]; omega
      · obtain rfl : k = d := by omega
        have b0 := (cell_of_row wr (w.heap.size + 1) 0 _ _ _ hbox).trans (show _ = some (Value.slice A0 k c0) from rfl)
        have b1 := (cell_of_row wr (w.heap.size + 1) 1 _ _ _ hbox).trans (show _ = some (Value.slice A1 k c1) from rfl)
        have r0 := (cell_of_row wr w.heap.size 0 _ _ _ hres).trans (show _ = some (Value.slice none 0 0) from rfl)
        have r1 := (cell_of_row wr w.heap.size 1 _ _ _ hres).trans (show _ = some (Value.slice none 0 0) from rfl)
        have r2 := frozen_of_row wr w.heap.size 0 _ _ hres
        have r3 := frozen_of_row wr w.heap.size 1 _ _ hres
        have HB := Lib.hid hB; clear hB
        have HNF := Lib.hid hnf; clear hnf
        have HBOX := Lib.hid hbox; clear hbox
        have HRES := Lib.hid hres; clear hres
        go_wp2
        refine bodyPost_ret (v := .tuple #[.agg #[.slice A0 k c0, .slice A1 k c1], .int .i64 0]) (by simp [results, Try.results81, go_sem, *]; done) rfl ?_
        obtain ⟨h0, S, h1, h2', h3'⟩ := (HNF.out.frame (w' := (wr.setCell ⟨w.heap.size, 0, none⟩ (.slice A0 k c0)).setCell ⟨w.heap.size, 1, none⟩ (.slice A1 k c1)) (fun b hb hlt => by rw [Below.heap_setCell _ _ _ _ (by simp; omega), Below.heap_setCell _ _ _ _ (by simp; omega)]) (by simp))
        have hB := HB.out
        exact ⟨_, _, _, _, _, _, rfl, (h0.sl (tg := true)).mono (fun b hb _ => by rcases hb with hb | hb; exact hb.elim; omega), (h1.sl (tg := true)).mono (fun b hb _ => by rcases hb with hb | hb; (have := (h2' b hb).1; omega); omega), (hB.setCell (by simp) _).setCell (by simp) _⟩
  · rw [newR_bad hok]
    go_enter Try.func81, Try.ntmps81
    rcases (by omega : d < 1 ∨ (1 ≤ d ∧ 12 < d) ∨ (1 ≤ d ∧ d ≤ 12 ∧ n < 0) ∨ (1 ≤ d ∧ d ≤ 12 ∧ 0 ≤ n ∧ 64 < n)) with h | ⟨h, h'⟩ | ⟨h, h', h''⟩ | ⟨h, h', h'', h'''⟩ <;>
    · go_wp2
      refine bodyPost_ret (v := .tuple #[.agg #[.slice none 0 0, .slice none 0 0], .int .i64 1]) (by simp [results, Try.results81, go_sem, *]; done) rfl ?_
      exact RetSE.bad rfl (by repeat' (first | (with_reducible exact Below.refl _ _) | (with_reducible refine Below.alloc ?_ ?_ _) | (with_reducible refine Below.drew ?_) | (with_reducible refine below_drewN ?_ _) | (with_reducible refine Below.setCell ?_ ?_ _) | (refine via ?_ (by with_reducible assumption) ?_) | (refine via ?_ (below_ext _ _) ?_) | go_size))
end Go.Proofs.Ytfccghfcilccfaa
