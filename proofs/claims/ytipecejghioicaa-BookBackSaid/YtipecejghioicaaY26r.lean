/- silolaw16.BookBack: the book of a book's records is it. Printed by gen_y26.py. -/
import Derived.Test.YtipecejghioicaaY24r
import Derived.Test.YtipecejghioicaaY20r
import Derived.Test.YtipecejghioicaaH3r
import Derived.Test.YtipecejghioicaaZdr
import Derived.Deep.Cut
import Derived.Deep.CutBlock
-- from Y25r
namespace Go.Silo
open Go Go.RowKit
end Go.Silo
namespace Go.Proofs.Ytipecejghioicaa
open Go.RowKit Go.Silo
set_option maxRecDepth 100000 in
set_option maxHeartbeats 1000000 in
theorem Shape16_c {w : World} : Calls Try.prog 26 #[] w (RetV (.agg #[.int .i64 2, .int .i64 1, .int .i64 4]) w) := by
  go_enter Try.func26, Try.ntmps26
  go_wp2
  refine bodyPost_ret (v := .agg #[.int .i64 2, .int .i64 1, .int .i64 4]) (by simp [results, Try.results26, go_sem, *]; done) rfl ?_
  exact ⟨rfl, (by repeat' (first | (with_reducible exact Below.refl _ _) | (with_reducible refine Below.alloc ?_ ?_ _) | (with_reducible refine Below.drew ?_) | (with_reducible refine below_drewN ?_ _) | (with_reducible refine Below.setCell ?_ ?_ _) | (refine via ?_ (by with_reducible assumption) ?_) | (refine via ?_ (below_ext _ _) ?_) | go_size))⟩
/-- The record of 'wakes'. -/
def wakeR : Record := ⟨2, 3, ⟨#[]⟩, ⟨#[]⟩, [5, 0], [(⟨0, 0⟩ : Slot), ⟨1, 0⟩, ⟨2, 0⟩]⟩
theorem wakeR_apply : applyR ⟨2, 1, 4⟩ ⟨[], [], [], 0⟩ wakeR = (⟨[⟨3, 5, 0, [(⟨0, 0⟩ : Slot), ⟨1, 0⟩, ⟨2, 0⟩]⟩], [], [], 4⟩, 0) := by decide
set_option maxRecDepth 100000 in
set_option maxHeartbeats 8000000 in
theorem wakes16_c {w : World} : Calls Try.prog 11 #[] w (RetV (.bool true) w) := by
  go_enter Try.func11, Try.ntmps11
  go_wp2_with fail
  refine Shape16_c.mono ?_
  rintro e w1 ⟨rfl, hb1⟩
  have HB1 := Lib.hid hb1; clear hb1
  go_wp2_with fail
  have hi := (Silo.Own.lit (E := intE) (w := w1) (S := fun q => True) (T := 3) (base := 0) [.int .i64 5, .int .i64 0] [5, 0] 2 (Nat.zero_le _) (by decide) rfl rfl (fun k y hy => by
    match k, hy with
    | 0, hy => injection hy with hy; subst hy; exact ⟨rfl, by unfold I64; decide⟩
    | 1, hy => injection hy with hy; subst hy; exact ⟨rfl, by unfold I64; decide⟩)).sl (tg := true)
  have hs := (Silo.Own.lit (E := slotE) (w := (w1.alloc (.cells #[.int .i64 5, .int .i64 0] 3))) (S := fun q => True) (T := 67) (base := 0) [.int .i64 0, .int .i64 0, .int .i64 1, .int .i64 0, .int .i64 2, .int .i64 0] [(⟨0, 0⟩ : Slot), ⟨1, 0⟩, ⟨2, 0⟩] 3 (Nat.zero_le _) (by decide) rfl rfl (fun k y hy => by
    match k, hy with
    | 0, hy => injection hy with hy; subst hy; exact ⟨rfl, by unfold I64; decide, by unfold I64; decide⟩
    | 1, hy => injection hy with hy; subst hy; exact ⟨rfl, by unfold I64; decide, by unfold I64; decide⟩
    | 2, hy => injection hy with hy; subst hy; exact ⟨rfl, by unfold I64; decide, by unfold I64; decide⟩)).sl (tg := true)
  have hi2 := hi.all (w' := ((w1.alloc (.cells #[.int .i64 5, .int .i64 0] 3)).alloc (.cells #[.int .i64 0, .int .i64 0, .int .i64 1, .int .i64 0, .int .i64 2, .int .i64 0] 67))) ((Below.refl _ _).alloc (Nat.le_refl _) _)
  have hbw : Below w1.heap.size w1 ((w1.alloc (.cells #[.int .i64 5, .int .i64 0] 3)).alloc (.cells #[.int .i64 0, .int .i64 0, .int .i64 1, .int .i64 0, .int .i64 2, .int .i64 0] 67)) := (by repeat' (first | (with_reducible exact Below.refl _ _) | (with_reducible refine Below.alloc ?_ ?_ _) | (with_reducible refine Below.drew ?_) | (with_reducible refine below_drewN ?_ _) | (with_reducible refine Below.setCell ?_ ?_ _) | (refine via ?_ (by with_reducible assumption) ?_) | (refine via ?_ (below_ext _ _) ?_) | go_size))
  rw [World.size_alloc] at hs
  generalize ((w1.alloc (.cells #[.int .i64 5, .int .i64 0] 3)).alloc (.cells #[.int .i64 0, .int .i64 0, .int .i64 1, .int .i64 0, .int .i64 2, .int .i64 0] 67)) = w2 at *
  have HB2 := Lib.hid (HB1.out.trans (hbw.mono HB1.out.size)); clear hbw hi
  have hcl := Apply_c (w := w2) (tg := true) (tg0 := true) (tg1 := true) (tg2 := true) (S := fun _ => False) (A0 := none) (n0 := 0) (c0 := 0) (A1 := none) (n1 := 0) (c1 := 0) (A2 := none) (n2 := 0) (c2 := 0) (s := ⟨2, 1, 4⟩) (b := ⟨[], [], [], 0⟩) (r := wakeR) ⟨by unfold I64; decide, by unfold I64; decide, by unfold I64; decide⟩ ⟨by decide, by decide, by decide⟩ ⟨Sl.nil_ (by decide), Sl.nil_ (by decide), Sl.nil_ (by decide), by unfold I64; decide⟩ ⟨strOk_nil, strOk_nil⟩ (hi2.mono (S' := fun _ => True) (fun _ _ _ => trivial)) (hs.mono (S' := fun _ => True) (fun _ _ _ => trivial))
  rw [wakeR_apply] at hcl
  refine hcl.mono ?_
  clear hcl hi2 hs
  rintro e w3 ⟨D0, m0', d0, D1, m1, d1, D2, m2, d2, rfl, hbr, hb3⟩
  have hlen : m0' = 1 := hbr.st.len.symm
  subst hlen
  have HB3 := Lib.hid (HB2.out.trans (hb3.mono HB2.out.size)); clear hb3 hbr
  go_upto_region 2 with (fail)
  have hx := heap_alloc_new w3 (.cells #[.slice D0 1 d0, .slice D1 m1 d1, .slice D2 m2 d2, .int .i64 4] 28)
  have hal : Below w3.heap.size w3 (w3.alloc (.cells #[.slice D0 1 d0, .slice D1 m1 d1, .slice D2 m2 d2, .int .i64 4] 28)) := (by repeat' (first | (with_reducible exact Below.refl _ _) | (with_reducible refine Below.alloc ?_ ?_ _) | (with_reducible refine Below.drew ?_) | (with_reducible refine below_drewN ?_ _) | (with_reducible refine Below.setCell ?_ ?_ _) | (refine via ?_ (by with_reducible assumption) ?_) | (refine via ?_ (below_ext _ _) ?_) | go_size))
  have hlt : w3.heap.size < (w3.alloc (.cells #[.slice D0 1 d0, .slice D1 m1 d1, .slice D2 m2 d2, .int .i64 4] 28)).heap.size := by simp
  generalize (w3.alloc (.cells #[.slice D0 1 d0, .slice D1 m1 d1, .slice D2 m2 d2, .int .i64 4] 28)) = w4 at *
  have HX := Lib.hid hx; clear hx
  have HB4 : Hid (Below w.heap.size w w4) := Lib.hid (HB3.out.trans (hal.mono HB3.out.size))
  clear hal
  generalize w3.heap.size = g at *
  go_wp2_with fail
  refine (num16_c (e := 0)).mono ?_
  rintro e w5 ⟨rfl, hb5⟩
  have hx := (hb5.block g hlt).trans HX.out
  have x0 := (cell_of_row _ _ 0 _ _ _ hx).trans (show _ = some (.slice D0 1 d0 : Value) from rfl)
  have x3 := (cell_of_row _ _ 3 _ _ _ hx).trans (show _ = some (.int .i64 4 : Value) from rfl)
  have HB5 := Lib.hid (HB4.out.trans (hb5.mono HB4.out.size))
  clear hb5 hx
  go_wp2
  go_ret
  exact ⟨by rfl, HB5.out⟩
end Go.Proofs.Ytipecejghioicaa
namespace Go.Proofs.Ytipecejghioicaa
open Go.RowKit Go.Silo
theorem linesB_len {s : Shape} {b : Book} (_h : bookOk s b = true) : (linesB b).length ≤ 1 + b.stripes.length + b.things.length + b.tags.length := by
  unfold linesB
  simp only [List.length_append, List.length_map]
  have : (preB b).length ≤ 1 := by unfold preB; split <;> simp
  omega
theorem linesB_sum {b : Book} : ((linesB b).map (fun r => r.list.length)).sum = 2 * b.stripes.length + (b.things.map (fun y => y.list.length)).sum := by
  unfold linesB
  simp only [List.map_append, List.sum_append, List.map_map]
  have h0 : ((preB b).map (fun r => r.list.length)).sum = 0 := by unfold preB; split <;> simp
  have h1 : (b.stripes.map ((fun (r : Record) => r.list.length) ∘ commitR)).sum = 2 * b.stripes.length := by
    induction b.stripes with
    | nil => rfl
    | cons x l ih => rw [List.map_cons, List.sum_cons, ih]; simp [commitR]; omega
  have h2 : b.things.map ((fun (r : Record) => r.list.length) ∘ thingR) = b.things.map (fun y => y.list.length) := List.map_congr_left (fun x _ => by simp [thingR])
  have h3 : (b.tags.map ((fun (r : Record) => r.list.length) ∘ tagR)).sum = 0 := by
    induction b.tags with
    | nil => rfl
    | cons x l ih => rw [List.map_cons, List.sum_cons, ih]; simp [tagR]
  rw [h0, h1, h2, h3]; omega
theorem named_sum {l : List Entry} : (namedTo l l.length).length = (l.map (fun y => y.list.length)).sum := by
  unfold namedTo
  rw [List.take_length, List.length_flatMap]
theorem ofR_lines {s : Shape} {b : Book} (h : bookOk s b = true) : ofR s (linesB b) = (b, 0) := by
  have h1 : (linesB b).any (fun r => !recOk r) = false := List.any_eq_false.2 (fun r hr => by rw [lines_ok h r hr]; decide)
  unfold ofR
  rw [(book_parts h).1, h1, foldDo_lines h]
  simp [h]
set_option maxRecDepth 100000 in
set_option maxHeartbeats 16000000 in
theorem BookBack_c {tg : Bool} {S : Nat → Prop} {w : World} {A0 A1 A2 A3 A4 : Option Addr} {n0 c0 n1 c1 n2 c2 n3 c3 n4 c4 : Nat} {q : ScriptD} (hB : ScriptDB q) (hsi : I64 q.s.K ∧ I64 q.s.M ∧ I64 q.s.size) (hb : BookR w S tg tg tg tg A0 n0 c0 A1 n1 c1 A2 n2 c2 q.b) (hl : Sl tg 54 (recordE tg) w S A3 n3 c3 q.l) (hv : Sl tg 4 boolE w S A4 n4 c4 q.live) :
    Calls Try.prog 3 #[.agg #[.int .i64 q.s.K, .int .i64 q.s.M, .int .i64 q.s.size, .slice A0 n0 c0, .slice A1 n1 c1, .slice A2 n2 c2, .int .i64 q.b.next, .slice A3 n3 c3, .slice A4 n4 c4, .int .i64 q.n]] w (RetV (.bool true) w) := by
  have HHH := Lib.hid (fun W (hW : Below w.heap.size w W) => Heavy16_c (w := W) hB (hb.all hW) (hl.all hW) (hv.all hW))
  have HBB := Lib.hid (fun W (hW : Below w.heap.size w W) => hb.all hW)
  have HSI := Lib.hid hsi
  clear hB hb hl hv hsi
  have hal : Below w.heap.size w (w.alloc (.cells #[.int .i64 q.s.K, .int .i64 q.s.M, .int .i64 q.s.size, .slice A0 n0 c0, .slice A1 n1 c1, .slice A2 n2 c2, .int .i64 q.b.next, .slice A3 n3 c3, .slice A4 n4 c4, .int .i64 q.n] 32)) := (by repeat' (first | (with_reducible exact Below.refl _ _) | (with_reducible refine Below.alloc ?_ ?_ _) | (with_reducible refine Below.drew ?_) | (with_reducible refine below_drewN ?_ _) | (with_reducible refine Below.setCell ?_ ?_ _) | (refine via ?_ (by with_reducible assumption) ?_) | (refine via ?_ (below_ext _ _) ?_) | go_size))
  have hr0 : (w.alloc (.cells #[.int .i64 q.s.K, .int .i64 q.s.M, .int .i64 q.s.size, .slice A0 n0 c0, .slice A1 n1 c1, .slice A2 n2 c2, .int .i64 q.b.next, .slice A3 n3 c3, .slice A4 n4 c4, .int .i64 q.n] 32)).heap[w.heap.size]? = some (.cells #[.int .i64 q.s.K, .int .i64 q.s.M, .int .i64 q.s.size, .slice A0 n0 c0, .slice A1 n1 c1, .slice A2 n2 c2, .int .i64 q.b.next, .slice A3 n3 c3, .slice A4 n4 c4, .int .i64 q.n] 32 (0, 0)) := by
    have := heap_alloc_new w (.cells #[.int .i64 q.s.K, .int .i64 q.s.M, .int .i64 q.s.size, .slice A0 n0 c0, .slice A1 n1 c1, .slice A2 n2 c2, .int .i64 q.b.next, .slice A3 n3 c3, .slice A4 n4 c4, .int .i64 q.n] 32)
    simpa only [World.size_alloc] using this
  have hz : w.heap.size < (w.alloc (.cells #[.int .i64 q.s.K, .int .i64 q.s.M, .int .i64 q.s.size, .slice A0 n0 c0, .slice A1 n1 c1, .slice A2 n2 c2, .int .i64 q.b.next, .slice A3 n3 c3, .slice A4 n4 c4, .int .i64 q.n] 32)).heap.size := by simp
  go_enter Try.func3, Try.ntmps3
  go_upto_region 1 with (fail)
  generalize (w.alloc (.cells #[.int .i64 q.s.K, .int .i64 q.s.M, .int .i64 q.s.size, .slice A0 n0 c0, .slice A1 n1 c1, .slice A2 n2 c2, .int .i64 q.b.next, .slice A3 n3 c3, .slice A4 n4 c4, .int .i64 q.n] 32)) = W0 at *
  have HAL := Lib.hid (fun V (hV : Below W0.heap.size W0 V) => hal.trans (hV.mono hal.size)); clear hal
  have ROW := Lib.hid (fun V (hV : Below W0.heap.size W0 V) => (show V.heap[w.heap.size]? = some (.cells #[.int .i64 q.s.K, .int .i64 q.s.M, .int .i64 q.s.size, .slice A0 n0 c0, .slice A1 n1 c1, .slice A2 n2 c2, .int .i64 q.b.next, .slice A3 n3 c3, .slice A4 n4 c4, .int .i64 q.n] 32 (0, 0)) from (hV.block _ (by omega)).trans hr0))
  clear hr0
  have hz1 : w.heap.size < W0.heap.size := by omega
  have r0 := ROW.out W0 (Below.refl _ _)
  have b00 := (cell_of_row _ _ 0 _ _ _ r0).trans (show _ = some (.int .i64 q.s.K : Value) from rfl)
  have b01 := (cell_of_row _ _ 1 _ _ _ r0).trans (show _ = some (.int .i64 q.s.M : Value) from rfl)
  have b02 := (cell_of_row _ _ 2 _ _ _ r0).trans (show _ = some (.int .i64 q.s.size : Value) from rfl)
  have b03 := (cell_of_row _ _ 3 _ _ _ r0).trans (show _ = some (.slice _ n0 c0 : Value) from rfl)
  have b04 := (cell_of_row _ _ 4 _ _ _ r0).trans (show _ = some (.slice _ n1 c1 : Value) from rfl)
  have b05 := (cell_of_row _ _ 5 _ _ _ r0).trans (show _ = some (.slice _ n2 c2 : Value) from rfl)
  have b06 := (cell_of_row _ _ 6 _ _ _ r0).trans (show _ = some (.int .i64 q.b.next : Value) from rfl)
  have b07 := (cell_of_row _ _ 7 _ _ _ r0).trans (show _ = some (.slice _ n3 c3 : Value) from rfl)
  have b08 := (cell_of_row _ _ 8 _ _ _ r0).trans (show _ = some (.slice _ n4 c4 : Value) from rfl)
  have b09 := (cell_of_row _ _ 9 _ _ _ r0).trans (show _ = some (.int .i64 q.n : Value) from rfl)
  clear r0
  go_wp2_with fail
  refine (HHH.out _ (HAL.out _ (Below.refl _ _))).mono ?_
  clear b00 b01 b02 b03 b04 b05 b06 b07 b08 b09
  rintro e w1 ⟨v1, rfl, hb1, hv1⟩
  have HB1 := Lib.hid hb1; clear hb1 HHH
  cases v1 with
  | true =>
    go_wp2
    go_ret
    exact ⟨by trivial, HAL.out _ HB1.out⟩
  | false =>
    have HF := Lib.hid (hv1 rfl).few
    have HLI := Lib.hid (hv1 rfl); clear hv1
    have r0 := ROW.out w1 HB1.out
    have b00 := (cell_of_row _ _ 0 _ _ _ r0).trans (show _ = some (.int .i64 q.s.K : Value) from rfl)
    have b01 := (cell_of_row _ _ 1 _ _ _ r0).trans (show _ = some (.int .i64 q.s.M : Value) from rfl)
    have b02 := (cell_of_row _ _ 2 _ _ _ r0).trans (show _ = some (.int .i64 q.s.size : Value) from rfl)
    have b03 := (cell_of_row _ _ 3 _ _ _ r0).trans (show _ = some (.slice _ n0 c0 : Value) from rfl)
    have b04 := (cell_of_row _ _ 4 _ _ _ r0).trans (show _ = some (.slice _ n1 c1 : Value) from rfl)
    have b05 := (cell_of_row _ _ 5 _ _ _ r0).trans (show _ = some (.slice _ n2 c2 : Value) from rfl)
    have b06 := (cell_of_row _ _ 6 _ _ _ r0).trans (show _ = some (.int .i64 q.b.next : Value) from rfl)
    clear r0
    go_wp2_with fail
    refine (Check16_c (s := q.s) (b := q.b) HSI.out HF.out (HBB.out _ (HAL.out _ HB1.out))).mono ?_
    clear b00 b01 b02 b03 b04 b05 b06
    rintro e w2 ⟨rfl, hb2⟩
    have HB2 := Lib.hid (HB1.out.trans (hb2.mono HB1.out.size)); clear hb2
    obtain ⟨bk, hbk⟩ : ∃ bk, bk = bookOk q.s q.b := ⟨_, rfl⟩
    have HBK := Lib.hid hbk.symm; clear hbk
    have hck : checkB q.s q.b = if bk = true then 0 else 1 := by unfold checkB; rw [HBK.out]
    rw [hck]
    clear hck
    cases bk with
    | false =>
      go_wp2_with fail
      refine (num16_c (e := 1)).mono ?_
      rintro e w3 ⟨rfl, hb3⟩
      have HB3 := Lib.hid (HB2.out.trans (hb3.mono HB2.out.size)); clear hb3
      go_wp2
      go_ret
      exact ⟨by trivial, HAL.out _ HB3.out⟩
    | true =>
      go_wp2_with fail
      refine (num16_c (e := 0)).mono ?_
      rintro e w3 ⟨rfl, hb3⟩
      have HB3 := Lib.hid (HB2.out.trans (hb3.mono HB2.out.size)); clear hb3
      have r0 := ROW.out w3 HB3.out
      have b00 := (cell_of_row _ _ 0 _ _ _ r0).trans (show _ = some (.int .i64 q.s.K : Value) from rfl)
      have b01 := (cell_of_row _ _ 1 _ _ _ r0).trans (show _ = some (.int .i64 q.s.M : Value) from rfl)
      have b02 := (cell_of_row _ _ 2 _ _ _ r0).trans (show _ = some (.int .i64 q.s.size : Value) from rfl)
      have b03 := (cell_of_row _ _ 3 _ _ _ r0).trans (show _ = some (.slice _ n0 c0 : Value) from rfl)
      have b04 := (cell_of_row _ _ 4 _ _ _ r0).trans (show _ = some (.slice _ n1 c1 : Value) from rfl)
      have b05 := (cell_of_row _ _ 5 _ _ _ r0).trans (show _ = some (.slice _ n2 c2 : Value) from rfl)
      have b06 := (cell_of_row _ _ 6 _ _ _ r0).trans (show _ = some (.int .i64 q.b.next : Value) from rfl)
      clear r0
      go_wp2_with fail
      refine (Lines_c (s := q.s) (b := q.b) HSI.out HF.out (HBB.out _ (HAL.out _ HB3.out))).mono ?_
      clear b00 b01 b02 b03 b04 b05 b06
      have hlr : linesR q.s q.b = (linesB q.b, 0) := by unfold linesR; rw [HBK.out]; rfl
      rw [hlr]
      clear hlr
      rintro e w4 ⟨A5, n5, c5, rfl, hs5, hb4⟩
      have HB4 := Lib.hid (HB3.out.trans (hb4.mono HB3.out.size)); clear hb4
      have hn5 : n5 ≤ 4000 := by
        have h1 := hs5.len
        have h2 := linesB_len HBK.out
        have h3 := HLI.out.bk
        simp only at h1
        omega
      have hsum : ((linesB q.b).map (fun r => r.list.length)).sum ≤ 1000000 := by
        rw [linesB_sum, ← named_sum]
        have h3 := HLI.out.bk
        omega
      have HOF := Lib.hid (Of_c (s := q.s) (l := linesB q.b) HSI.out hs5 hn5 hsum)
      rw [ofR_lines HBK.out] at HOF
      clear hs5 hn5 hsum
      have r0 := ROW.out w4 HB4.out
      have b00 := (cell_of_row _ _ 0 _ _ _ r0).trans (show _ = some (.int .i64 q.s.K : Value) from rfl)
      have b01 := (cell_of_row _ _ 1 _ _ _ r0).trans (show _ = some (.int .i64 q.s.M : Value) from rfl)
      have b02 := (cell_of_row _ _ 2 _ _ _ r0).trans (show _ = some (.int .i64 q.s.size : Value) from rfl)
      clear r0
      go_wp2_with fail
      refine HOF.out.mono ?_
      clear b00 b01 b02
      rintro e w5 ⟨D0, d0, e0, D1, d1, e1, D2, d2, e2, rfl, hbr, hb5⟩
      have HB5 := Lib.hid (HB4.out.trans (hb5.mono HB4.out.size)); clear hb5 HOF
      go_upto_region 5 with (fail)
      have hbr := (show BookR w5 _ true true true true D0 d0 e0 D1 d1 e1 D2 d2 e2 q.b from hbr)
      have hx := heap_alloc_new w5 (.cells #[.slice D0 d0 e0, .slice D1 d1 e1, .slice D2 d2 e2, .int .i64 q.b.next] 28)
      have hal5 : Below w5.heap.size w5 (w5.alloc (.cells #[.slice D0 d0 e0, .slice D1 d1 e1, .slice D2 d2 e2, .int .i64 q.b.next] 28)) := (by repeat' (first | (with_reducible exact Below.refl _ _) | (with_reducible refine Below.alloc ?_ ?_ _) | (with_reducible refine Below.drew ?_) | (with_reducible refine below_drewN ?_ _) | (with_reducible refine Below.setCell ?_ ?_ _) | (refine via ?_ (by with_reducible assumption) ?_) | (refine via ?_ (below_ext _ _) ?_) | go_size))
      have HBR := Lib.hid (hbr.all hal5); clear hbr
      have hlt : w5.heap.size < (w5.alloc (.cells #[.slice D0 d0 e0, .slice D1 d1 e1, .slice D2 d2 e2, .int .i64 q.b.next] 28)).heap.size := by simp
      generalize (w5.alloc (.cells #[.slice D0 d0 e0, .slice D1 d1 e1, .slice D2 d2 e2, .int .i64 q.b.next] 28)) = w6 at *
      have HX := Lib.hid hx; clear hx
      have HB6 := Lib.hid (HB5.out.trans (hal5.mono HB5.out.size)); clear hal5
      generalize w5.heap.size = g at *
      go_wp2_with fail
      refine (num16_c (e := 0)).mono ?_
      rintro e w7 ⟨rfl, hb7⟩
      have HB7 := Lib.hid (HB6.out.trans (hb7.mono HB6.out.size))
      have HX7 := Lib.hid ((hb7.block g hlt).trans HX.out)
      have HBR7 := Lib.hid (HBR.out.all hb7); clear hb7 HX HBR hlt
      go_wp2_with fail
      refine (num16_c (e := 0)).mono ?_
      rintro e w8 ⟨rfl, hb8⟩
      have HB8 := Lib.hid (HB7.out.trans (hb8.mono HB7.out.size))
      have HX8 := Lib.hid ((hb8.block g (Array.getElem?_eq_some_iff.1 HX7.out).1).trans HX7.out)
      have HBR8 := Lib.hid (HBR7.out.all hb8); clear hb8 HX7 HBR7
      have hx := HX8.out
      have x0 := (cell_of_row _ _ 0 _ _ _ hx).trans (show _ = some (.slice D0 d0 e0 : Value) from rfl)
      have x1 := (cell_of_row _ _ 1 _ _ _ hx).trans (show _ = some (.slice D1 d1 e1 : Value) from rfl)
      have x2 := (cell_of_row _ _ 2 _ _ _ hx).trans (show _ = some (.slice D2 d2 e2 : Value) from rfl)
      have x3 := (cell_of_row _ _ 3 _ _ _ hx).trans (show _ = some (.int .i64 q.b.next : Value) from rfl)
      clear hx
      have r0 := ROW.out w8 HB8.out
      have b03 := (cell_of_row _ _ 3 _ _ _ r0).trans (show _ = some (.slice _ n0 c0 : Value) from rfl)
      have b04 := (cell_of_row _ _ 4 _ _ _ r0).trans (show _ = some (.slice _ n1 c1 : Value) from rfl)
      have b05 := (cell_of_row _ _ 5 _ _ _ r0).trans (show _ = some (.slice _ n2 c2 : Value) from rfl)
      have b06 := (cell_of_row _ _ 6 _ _ _ r0).trans (show _ = some (.int .i64 q.b.next : Value) from rfl)
      clear r0
      go_wp2_with fail
      have hwb := HBB.out _ (HAL.out _ HB8.out)
      refine (EqBook_c (x := q.b) (y := q.b) HBR8.out.st HBR8.out.th HBR8.out.ta hwb.st hwb.th hwb.ta).mono ?_
      clear hwb x0 x1 x2 x3
      clear b03 b04 b05 b06
      rw [decide_eq_true rfl]
      rintro e w9 ⟨rfl, hb9⟩
      have HB9 := Lib.hid (HB8.out.trans (hb9.mono HB8.out.size)); clear hb9
      go_wp2_with fail
      refine Heavy13_nil.mono ?_
      rintro e w10 ⟨rfl, hb10⟩
      have HB10 := Lib.hid (HB9.out.trans (hb10.mono HB9.out.size)); clear hb10
      go_wp2_with fail
      refine wakes16_c.mono ?_
      rintro e w11 ⟨rfl, hb11⟩
      have HB11 := Lib.hid (HB10.out.trans (hb11.mono HB10.out.size)); clear hb11
      go_wp2
      go_ret
      exact ⟨by trivial, HAL.out _ HB11.out⟩
end Go.Proofs.Ytipecejghioicaa
