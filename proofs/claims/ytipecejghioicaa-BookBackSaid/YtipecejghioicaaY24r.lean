/- book.Apply: the book behind a record. Printed by gen_y24.py. -/
import Derived.Test.YtipecejghioicaaY23r
import Derived.Test.YtipecejghioicaaY19r
import Derived.Test.YtipecejghioicaaN9r
namespace Go.Proofs.Ytipecejghioicaa
open Go.RowKit Go.Silo
theorem bookOk_sorted {s : Shape} {b : Book} (h : bookOk s b = true) : Sorted b := by
  obtain ⟨_, _, hst, hth, htg⟩ := book_parts h
  refine ⟨stripesOk_ids hst, ?_, ?_⟩
  · exact rise_index.1 (rise_chain (R := fun (x y : Entry) => strLt x.digest y.digest = true) (fun _ _ _ h1 h2 => strLt_trans h1 h2) (fun k h0 hk => by
      have := hth k hk
      unfold thingAt at this
      simp only [Bool.and_eq_true, Bool.or_eq_true, decide_eq_true_eq] at this
      rcases this.2.1 with h | h
      · omega
      · exact h))
  · exact rise_index.1 (rise_chain (R := fun (x y : Tag) => strLt x.name y.name = true) (fun _ _ _ h1 h2 => strLt_trans h1 h2) (fun k h0 hk => by
      have := htg k hk
      unfold tagAt at this
      simp only [Bool.and_eq_true, Bool.or_eq_true, decide_eq_true_eq] at this
      rcases this.2 with h | h
      · omega
      · exact h))
theorem bookOk_lens {s : Shape} {b : Book} (h : bookOk s b = true) : b.things.length ≤ 60 ∧ b.tags.length ≤ 40 := by
  unfold bookOk at h
  simp only [Bool.and_eq_true, decide_eq_true_eq] at h
  obtain ⟨_, _, _, hth, htg⟩ := h
  unfold thingsOk at hth
  unfold tagsOk at htg
  simp only [Bool.and_eq_true, decide_eq_true_eq] at hth htg
  exact ⟨hth.2.2, htg.2⟩
/-- The book behind a record, or the error. -/
def applyR (s : Shape) (b : Book) (r : Record) : Book × Int :=
  if (bookOk s b && recOk r) = true then (match doR b r with | none => (⟨[], [], [], 0⟩, 3) | some b' => (b', 0)) else (⟨[], [], [], 0⟩, 1)
theorem avoids_stripe {T : TypeId} (h : 67 ≠ T) : (stripeE true).Avoids T := by
  rintro w w' S vs x ha hs ⟨A, n, c, rfl, hok, hsl⟩
  exact ⟨A, n, c, rfl, hok, hsl.avoid Avoids.flat h ha hs⟩
theorem avoids_entry {T : TypeId} (h : 3 ≠ T) : (entryE true).Avoids T := by
  rintro w w' S vs x ha hs ⟨A, n, c, rfl, hok, hsl⟩
  exact ⟨A, n, c, rfl, hok, hsl.avoid Avoids.flat h ha hs⟩
/-- A block of another kind is written over: the book of one's own reads as before. -/
theorem OB.readAvoid {X : Nat → Option Obj} {β bb g : Nat} {A0 : Option Addr} {n0 c0 : Nat} {A1 : Option Addr} {n1 c1 : Nat} {A2 : Option Addr} {n2 c2 : Nat} {b : Book} {W V : World} {cur : Array Value} {fr : Nat × Nat} (h : OB X β bb A0 n0 c0 A1 n1 c1 A2 n2 c2 b W) (hg : W.heap[g]? = some (.cells cur 28 fr)) (hA : Agree (fun q => q ≠ g) W V) (hs : W.heap.size ≤ V.heap.size) :
    BookR V (fun q => β ≤ q) true true true true A0 n0 c0 A1 n1 c1 A2 n2 c2 b := by
  have ha : ∀ (S : Nat → Prop) q, S q → q < W.heap.size → (∀ k, W.shape? q ≠ some (28, k)) → V.heap[q]? = W.heap[q]? := fun S q _ hq hk => hA q (fun e => by
    subst e
    exact hk _ (shape_of_cells hg)) hq
  have hlo := h.lo
  have hup : ∀ q, (NS bb A0 A1 A2 q ∨ β ≤ q) → β ≤ q := fun q hq => by
    rcases hq with hq | hq
    · have := hq.1; omega
    · exact hq
  exact ⟨((h.st.sl (tg := true)).mono (S' := fun q => β ≤ q) (fun q hq _ => hup q hq)).avoid (avoids_stripe (by decide)) (by decide) (ha _) hs, ((h.th.sl (tg := true)).mono (S' := fun q => β ≤ q) (fun q hq _ => hup q hq)).avoid (avoids_entry (by decide)) (by decide) (ha _) hs, ((h.ta.sl (tg := true)).mono (S' := fun q => β ≤ q) (fun q hq _ => hup q hq)).avoid Avoids.flat (by decide) (ha _) hs, h.nx⟩
set_option maxRecDepth 100000 in
set_option maxHeartbeats 16000000 in
theorem Apply_c {tg tg0 tg1 tg2 tg4 : Bool} {S S4 : Nat → Prop} {w : World} {A0 A1 A2 A4 A5 : Option Addr} {n0 c0 n1 c1 n2 c2 n4 c4 n5 c5 : Nat} {s : Shape} {b : Book} {r : Record} (hsi : I64 s.K ∧ I64 s.M ∧ I64 s.size) (hf : Few b) (h : BookR w S tg tg0 tg1 tg2 A0 n0 c0 A1 n1 c1 A2 n2 c2 b)
    (hst : StrOk r.name ∧ StrOk r.digest) (hl : Sl tg4 3 intE w S4 A4 n4 c4 r.list) (hsl : Sl tg4 67 slotE w S4 A5 n5 c5 r.slots) :
    Calls Try.prog 25 #[.agg #[.int .i64 s.K, .int .i64 s.M, .int .i64 s.size], .agg #[.slice A0 n0 c0, .slice A1 n1 c1, .slice A2 n2 c2, .int .i64 b.next], .agg #[.int .i64 r.kind, .int .i64 r.id, .string r.name, .string r.digest, .slice A4 n4 c4, .slice A5 n5 c5]] w (RetOf (applyR s b r) w) := by
  have HM := Lib.hid (fun W (hW : Below w.heap.size w W) => May_c (w := W) hsi hf (h.all hW))
  have HRM := Lib.hid (fun W (hW : Below w.heap.size w W) => recMay_c (w := W) (r := r) (hl.all hW) (hsl.all hW))
  have HOWN := Lib.hid (fun W (hW : Below w.heap.size w W) (hq : bookOk s b = true) => bookOwn_c (w := W) (h.all hW) ⟨by have := h.st.len; have := hf.st; omega, by have := h.th.len; have := (bookOk_lens hq).1; omega, by have := h.ta.len; have := (bookOk_lens hq).2; omega⟩ hf.places hf.lists)
  have HL4 := Lib.hid ((hl.lt_block.mono (S' := fun q => q < w.heap.size) (fun _ h _ => h.2)))
  have HS5 := Lib.hid ((hsl.lt_block.mono (S' := fun q => q < w.heap.size) (fun _ h _ => h.2)))
  have HST := Lib.hid hst
  have HFW := Lib.hid hf
  clear h hf hsi hst hl hsl
  have hal : Below w.heap.size w ((((w.alloc (.cells #[.int .i64 s.K, .int .i64 s.M, .int .i64 s.size] 23)).alloc (.cells #[.slice A0 n0 c0, .slice A1 n1 c1, .slice A2 n2 c2, .int .i64 b.next] 28)).alloc (.cells #[.int .i64 r.kind, .int .i64 r.id, .string r.name, .string r.digest, .slice A4 n4 c4, .slice A5 n5 c5] 54)).alloc (.cells #[.slice none 0 0, .slice none 0 0, .slice none 0 0, .int .i64 0] 28)) := (by repeat' (first | (with_reducible exact Below.refl _ _) | (with_reducible refine Below.alloc ?_ ?_ _) | (with_reducible refine Below.drew ?_) | (with_reducible refine below_drewN ?_ _) | (with_reducible refine Below.setCell ?_ ?_ _) | (refine via ?_ (by with_reducible assumption) ?_) | (refine via ?_ (below_ext _ _) ?_) | go_size))
  have hr0 : ((((w.alloc (.cells #[.int .i64 s.K, .int .i64 s.M, .int .i64 s.size] 23)).alloc (.cells #[.slice A0 n0 c0, .slice A1 n1 c1, .slice A2 n2 c2, .int .i64 b.next] 28)).alloc (.cells #[.int .i64 r.kind, .int .i64 r.id, .string r.name, .string r.digest, .slice A4 n4 c4, .slice A5 n5 c5] 54)).alloc (.cells #[.slice none 0 0, .slice none 0 0, .slice none 0 0, .int .i64 0] 28)).heap[w.heap.size]? = some (.cells #[.int .i64 s.K, .int .i64 s.M, .int .i64 s.size] 23 (0, 0)) := by
    rw [Below.heap_alloc _ _ _ (by simp; try omega), Below.heap_alloc _ _ _ (by simp; try omega), Below.heap_alloc _ _ _ (by simp; try omega)]
    have := heap_alloc_new w (.cells #[.int .i64 s.K, .int .i64 s.M, .int .i64 s.size] 23)
    simpa only [World.size_alloc] using this
  have hr1 : ((((w.alloc (.cells #[.int .i64 s.K, .int .i64 s.M, .int .i64 s.size] 23)).alloc (.cells #[.slice A0 n0 c0, .slice A1 n1 c1, .slice A2 n2 c2, .int .i64 b.next] 28)).alloc (.cells #[.int .i64 r.kind, .int .i64 r.id, .string r.name, .string r.digest, .slice A4 n4 c4, .slice A5 n5 c5] 54)).alloc (.cells #[.slice none 0 0, .slice none 0 0, .slice none 0 0, .int .i64 0] 28)).heap[w.heap.size + 1]? = some (.cells #[.slice A0 n0 c0, .slice A1 n1 c1, .slice A2 n2 c2, .int .i64 b.next] 28 (0, 0)) := by
    rw [Below.heap_alloc _ _ _ (by simp; try omega), Below.heap_alloc _ _ _ (by simp; try omega)]
    have := heap_alloc_new (w.alloc (.cells #[.int .i64 s.K, .int .i64 s.M, .int .i64 s.size] 23)) (.cells #[.slice A0 n0 c0, .slice A1 n1 c1, .slice A2 n2 c2, .int .i64 b.next] 28)
    simpa only [World.size_alloc] using this
  have hr2 : ((((w.alloc (.cells #[.int .i64 s.K, .int .i64 s.M, .int .i64 s.size] 23)).alloc (.cells #[.slice A0 n0 c0, .slice A1 n1 c1, .slice A2 n2 c2, .int .i64 b.next] 28)).alloc (.cells #[.int .i64 r.kind, .int .i64 r.id, .string r.name, .string r.digest, .slice A4 n4 c4, .slice A5 n5 c5] 54)).alloc (.cells #[.slice none 0 0, .slice none 0 0, .slice none 0 0, .int .i64 0] 28)).heap[w.heap.size + 1 + 1]? = some (.cells #[.int .i64 r.kind, .int .i64 r.id, .string r.name, .string r.digest, .slice A4 n4 c4, .slice A5 n5 c5] 54 (0, 0)) := by
    rw [Below.heap_alloc _ _ _ (by simp; try omega)]
    have := heap_alloc_new ((w.alloc (.cells #[.int .i64 s.K, .int .i64 s.M, .int .i64 s.size] 23)).alloc (.cells #[.slice A0 n0 c0, .slice A1 n1 c1, .slice A2 n2 c2, .int .i64 b.next] 28)) (.cells #[.int .i64 r.kind, .int .i64 r.id, .string r.name, .string r.digest, .slice A4 n4 c4, .slice A5 n5 c5] 54)
    simpa only [World.size_alloc] using this
  have hr3 : ((((w.alloc (.cells #[.int .i64 s.K, .int .i64 s.M, .int .i64 s.size] 23)).alloc (.cells #[.slice A0 n0 c0, .slice A1 n1 c1, .slice A2 n2 c2, .int .i64 b.next] 28)).alloc (.cells #[.int .i64 r.kind, .int .i64 r.id, .string r.name, .string r.digest, .slice A4 n4 c4, .slice A5 n5 c5] 54)).alloc (.cells #[.slice none 0 0, .slice none 0 0, .slice none 0 0, .int .i64 0] 28)).heap[w.heap.size + 1 + 1 + 1]? = some (.cells #[.slice none 0 0, .slice none 0 0, .slice none 0 0, .int .i64 0] 28 (0, 0)) := by
    have := heap_alloc_new (((w.alloc (.cells #[.int .i64 s.K, .int .i64 s.M, .int .i64 s.size] 23)).alloc (.cells #[.slice A0 n0 c0, .slice A1 n1 c1, .slice A2 n2 c2, .int .i64 b.next] 28)).alloc (.cells #[.int .i64 r.kind, .int .i64 r.id, .string r.name, .string r.digest, .slice A4 n4 c4, .slice A5 n5 c5] 54)) (.cells #[.slice none 0 0, .slice none 0 0, .slice none 0 0, .int .i64 0] 28)
    simpa only [World.size_alloc] using this
  have hz : w.heap.size + 1 + 1 + 1 < ((((w.alloc (.cells #[.int .i64 s.K, .int .i64 s.M, .int .i64 s.size] 23)).alloc (.cells #[.slice A0 n0 c0, .slice A1 n1 c1, .slice A2 n2 c2, .int .i64 b.next] 28)).alloc (.cells #[.int .i64 r.kind, .int .i64 r.id, .string r.name, .string r.digest, .slice A4 n4 c4, .slice A5 n5 c5] 54)).alloc (.cells #[.slice none 0 0, .slice none 0 0, .slice none 0 0, .int .i64 0] 28)).heap.size := by simp
  go_enter Try.func25, Try.ntmps25
  go_upto_region 1 with (fail)
  generalize ((((w.alloc (.cells #[.int .i64 s.K, .int .i64 s.M, .int .i64 s.size] 23)).alloc (.cells #[.slice A0 n0 c0, .slice A1 n1 c1, .slice A2 n2 c2, .int .i64 b.next] 28)).alloc (.cells #[.int .i64 r.kind, .int .i64 r.id, .string r.name, .string r.digest, .slice A4 n4 c4, .slice A5 n5 c5] 54)).alloc (.cells #[.slice none 0 0, .slice none 0 0, .slice none 0 0, .int .i64 0] 28)) = W0 at *
  have HAL := Lib.hid (fun V (hV : Below W0.heap.size W0 V) => hal.trans (hV.mono hal.size)); clear hal
  have ROW := Lib.hid (fun V (hV : Below W0.heap.size W0 V) => (show V.heap[w.heap.size]? = some (.cells #[.int .i64 s.K, .int .i64 s.M, .int .i64 s.size] 23 (0, 0)) ∧ V.heap[w.heap.size + 1]? = some (.cells #[.slice A0 n0 c0, .slice A1 n1 c1, .slice A2 n2 c2, .int .i64 b.next] 28 (0, 0)) ∧ V.heap[w.heap.size + 1 + 1]? = some (.cells #[.int .i64 r.kind, .int .i64 r.id, .string r.name, .string r.digest, .slice A4 n4 c4, .slice A5 n5 c5] 54 (0, 0)) ∧ V.heap[w.heap.size + 1 + 1 + 1]? = some (.cells #[.slice none 0 0, .slice none 0 0, .slice none 0 0, .int .i64 0] 28 (0, 0)) from ⟨(hV.block _ (by omega)).trans hr0, (hV.block _ (by omega)).trans hr1, (hV.block _ (by omega)).trans hr2, (hV.block _ (by omega)).trans hr3⟩))
  clear hr0 hr1 hr2 hr3
  have hz1 : w.heap.size + 1 + 1 + 1 < W0.heap.size := by omega
  obtain ⟨r0, r1, r2, r3⟩ := ROW.out W0 (Below.refl _ _)
  have b00 := (cell_of_row _ _ 0 _ _ _ r0).trans (show _ = some (.int .i64 s.K : Value) from rfl)
  have b01 := (cell_of_row _ _ 1 _ _ _ r0).trans (show _ = some (.int .i64 s.M : Value) from rfl)
  have b02 := (cell_of_row _ _ 2 _ _ _ r0).trans (show _ = some (.int .i64 s.size : Value) from rfl)
  have b10 := (cell_of_row _ _ 0 _ _ _ r1).trans (show _ = some (.slice _ n0 c0 : Value) from rfl)
  have b11 := (cell_of_row _ _ 1 _ _ _ r1).trans (show _ = some (.slice _ n1 c1 : Value) from rfl)
  have b12 := (cell_of_row _ _ 2 _ _ _ r1).trans (show _ = some (.slice _ n2 c2 : Value) from rfl)
  have b13 := (cell_of_row _ _ 3 _ _ _ r1).trans (show _ = some (.int .i64 b.next : Value) from rfl)
  clear r0 r1 r2 r3
  go_wp2_with fail
  refine (HM.out _ (HAL.out _ (Below.refl _ _))).mono ?_
  clear b00 b01 b02 b10 b11 b12 b13
  rintro e w1 ⟨rfl, hb1⟩
  have HB1 := Lib.hid hb1; clear hb1 HM
  obtain ⟨bk, hbk⟩ : ∃ bk, bk = bookOk s b := ⟨_, rfl⟩
  rw [← hbk]
  have HBK := Lib.hid hbk.symm; clear hbk
  cases bk with
  | false =>
    have HE : Hid (applyR s b r = (⟨[], [], [], 0⟩, 1)) := Lib.hid (by unfold applyR; rw [HBK.out]; rfl)
    obtain ⟨_, _, _, r4⟩ := ROW.out w1 HB1.out
    have f0 := (cell_of_row _ _ 0 _ _ _ r4).trans (show _ = some (.slice none 0 0 : Value) from rfl)
    have f1 := (cell_of_row _ _ 1 _ _ _ r4).trans (show _ = some (.slice none 0 0 : Value) from rfl)
    have f2 := (cell_of_row _ _ 2 _ _ _ r4).trans (show _ = some (.slice none 0 0 : Value) from rfl)
    have f3 := (cell_of_row _ _ 3 _ _ _ r4).trans (show _ = some (.int .i64 0 : Value) from rfl)
    have g0 := frozen_of_row _ _ 0 _ _ r4
    have g1 := frozen_of_row _ _ 1 _ _ r4
    have g2 := frozen_of_row _ _ 2 _ _ r4
    have g3 := frozen_of_row _ _ 3 _ _ r4
    have hb4 := box4 (a := .slice none 0 0) (b := .slice none 0 0) (c := .slice none 0 0) (d := .int .i64 0) r4
    have HFIN := Lib.hid (hb4.2.1 w.heap.size (by omega))
    have HUP := Lib.hid (HAL.out _ HB1.out)
    clear r4 hb4
    go_wp2
    refine bodyPost_ret (v := .tuple #[.agg #[.slice none 0 0, .slice none 0 0, .slice none 0 0, .int .i64 0], .int .i64 1]) (by simp [results, Try.results25, go_sem, *]; done) rfl ?_
    exact ⟨none, 0, 0, none, 0, 0, none, 0, 0, by rw [HE.out], by rw [HE.out]; exact ⟨Sl.nil_ (by omega), Sl.nil_ (by omega), Sl.nil_ (by omega), (show I64 0 by unfold I64; omega)⟩, HUP.out.trans HFIN.out⟩
  | true =>
    obtain ⟨r0, r1, r2, r3⟩ := ROW.out w1 HB1.out
    have b20 := (cell_of_row _ _ 0 _ _ _ r2).trans (show _ = some (.int .i64 r.kind : Value) from rfl)
    have b21 := (cell_of_row _ _ 1 _ _ _ r2).trans (show _ = some (.int .i64 r.id : Value) from rfl)
    have b22 := (cell_of_row _ _ 2 _ _ _ r2).trans (show _ = some (.string r.name : Value) from rfl)
    have b23 := (cell_of_row _ _ 3 _ _ _ r2).trans (show _ = some (.string r.digest : Value) from rfl)
    have b24 := (cell_of_row _ _ 4 _ _ _ r2).trans (show _ = some (.slice _ n4 c4 : Value) from rfl)
    have b25 := (cell_of_row _ _ 5 _ _ _ r2).trans (show _ = some (.slice _ n5 c5 : Value) from rfl)
    clear r0 r1 r2 r3
    go_wp2_with fail
    refine (HRM.out _ (HAL.out _ HB1.out)).mono ?_
    clear b20 b21 b22 b23 b24 b25
    rintro e w2 ⟨rfl, hb2⟩
    have HB2 := Lib.hid (HB1.out.trans (hb2.mono HB1.out.size)); clear hb2 HRM
    obtain ⟨rk, hrk⟩ : ∃ rk, rk = recOk r := ⟨_, rfl⟩
    rw [← hrk]
    have HRK := Lib.hid hrk.symm; clear hrk
    cases rk with
    | false =>
      have HE : Hid (applyR s b r = (⟨[], [], [], 0⟩, 1)) := Lib.hid (by unfold applyR; rw [HBK.out, HRK.out]; rfl)
      obtain ⟨_, _, _, r4⟩ := ROW.out w2 HB2.out
      have f0 := (cell_of_row _ _ 0 _ _ _ r4).trans (show _ = some (.slice none 0 0 : Value) from rfl)
      have f1 := (cell_of_row _ _ 1 _ _ _ r4).trans (show _ = some (.slice none 0 0 : Value) from rfl)
      have f2 := (cell_of_row _ _ 2 _ _ _ r4).trans (show _ = some (.slice none 0 0 : Value) from rfl)
      have f3 := (cell_of_row _ _ 3 _ _ _ r4).trans (show _ = some (.int .i64 0 : Value) from rfl)
      have g0 := frozen_of_row _ _ 0 _ _ r4
      have g1 := frozen_of_row _ _ 1 _ _ r4
      have g2 := frozen_of_row _ _ 2 _ _ r4
      have g3 := frozen_of_row _ _ 3 _ _ r4
      have hb4 := box4 (a := .slice none 0 0) (b := .slice none 0 0) (c := .slice none 0 0) (d := .int .i64 0) r4
      have HFIN := Lib.hid (hb4.2.1 w.heap.size (by omega))
      have HUP := Lib.hid (HAL.out _ HB2.out)
      clear r4 hb4
      go_wp2
      refine bodyPost_ret (v := .tuple #[.agg #[.slice none 0 0, .slice none 0 0, .slice none 0 0, .int .i64 0], .int .i64 1]) (by simp [results, Try.results25, go_sem, *]; done) rfl ?_
      exact ⟨none, 0, 0, none, 0, 0, none, 0, 0, by rw [HE.out], by rw [HE.out]; exact ⟨Sl.nil_ (by omega), Sl.nil_ (by omega), Sl.nil_ (by omega), (show I64 0 by unfold I64; omega)⟩, HUP.out.trans HFIN.out⟩
    | true =>
      have HAP : Hid (applyR s b r = (match doR b r with | none => (⟨[], [], [], 0⟩, 3) | some b' => (b', 0))) := Lib.hid (by unfold applyR; rw [HBK.out, HRK.out]; rfl)
      have hz2 : w.heap.size + 1 + 1 + 1 < w2.heap.size := Nat.lt_of_lt_of_le hz1 HB2.out.size
      obtain ⟨r0, r1, r2, r3⟩ := ROW.out w2 HB2.out
      have b10 := (cell_of_row _ _ 0 _ _ _ r1).trans (show _ = some (.slice _ n0 c0 : Value) from rfl)
      have b11 := (cell_of_row _ _ 1 _ _ _ r1).trans (show _ = some (.slice _ n1 c1 : Value) from rfl)
      have b12 := (cell_of_row _ _ 2 _ _ _ r1).trans (show _ = some (.slice _ n2 c2 : Value) from rfl)
      have b13 := (cell_of_row _ _ 3 _ _ _ r1).trans (show _ = some (.int .i64 b.next : Value) from rfl)
      clear r0 r1 r2 r3
      go_wp2_with fail
      refine (HOWN.out _ (HAL.out _ HB2.out) HBK.out).mono ?_
      clear b10 b11 b12 b13
      rintro e w3 ⟨B0, k0, B1, k1, B2, k2, rfl, hob, hb3⟩
      have HOB := Lib.hid hob; clear hob HOWN
      have HB3 := Lib.hid (HB2.out.trans (hb3.mono HB2.out.size)); clear hb3
      have HLS := Lib.hid (And.intro (show b.stripes.length ≤ 999999 by have := HFW.out.st; omega) (bookOk_lens HBK.out))
      obtain ⟨_, r1, _, _⟩ := ROW.out w3 HB3.out
      have f0 := (cell_of_row _ _ 0 _ _ _ r1).trans (show _ = some (.slice A0 n0 c0 : Value) from rfl)
      have f1 := (cell_of_row _ _ 1 _ _ _ r1).trans (show _ = some (.slice A1 n1 c1 : Value) from rfl)
      have f2 := (cell_of_row _ _ 2 _ _ _ r1).trans (show _ = some (.slice A2 n2 c2 : Value) from rfl)
      have f3 := (cell_of_row _ _ 3 _ _ _ r1).trans (show _ = some (.int .i64 b.next : Value) from rfl)
      have g0 := frozen_of_row _ _ 0 _ _ r1
      have g1 := frozen_of_row _ _ 1 _ _ r1
      have g2 := frozen_of_row _ _ 2 _ _ r1
      have g3 := frozen_of_row _ _ 3 _ _ r1
      generalize hm0 : b.stripes.length = m0 at *
      generalize hm1 : b.things.length = m1 at *
      generalize hm2 : b.tags.length = m2 at *
      have HM0 := Lib.hid hm0; clear hm0
      have HM1 := Lib.hid hm1; clear hm1
      have HM2 := Lib.hid hm2; clear hm2
      have hb4 := box4 (a := .slice B0 m0 k0) (b := .slice B1 m1 k1) (c := .slice B2 m2 k2) (d := .int .i64 b.next) r1
      have HR1 := Lib.hid hb4.1
      have HBE := Lib.hid (hb4.2.1 (w.heap.size + 1) (by omega))
      have HAG := Lib.hid hb4.2.2
      clear r1 hb4
      go_upto_region 4 with (fail)
      generalize hw4 : ((((w3.setCell ⟨w.heap.size + 1, 0, none⟩ (.slice B0 m0 k0)).setCell ⟨w.heap.size + 1, 1, none⟩ (.slice B1 m1 k1)).setCell ⟨w.heap.size + 1, 2, none⟩ (.slice B2 m2 k2)).setCell ⟨w.heap.size + 1, 3, none⟩ (.int .i64 b.next)) = w4 at *
      have hs4 : w3.heap.size = w4.heap.size := by rw [← hw4]; simp
      clear hw4 f0 f1 f2 f3 g0 g1 g2 g3
      have HOB4 : Hid (OB (fun g => if g = w.heap.size + 1 + 1 + 1 then some (.cells #[.slice none 0 0, .slice none 0 0, .slice none 0 0, .int .i64 0] 28 (0, 0)) else none) (w.heap.size + 1) (w.heap.size + 1) B0 m0 k0 B1 m1 k1 B2 m2 k2 b w4) := Lib.hid (HOB.out _ (w.heap.size + 1) w4 (by omega) (HAG.out.mono (fun q hq _ => by omega)) (by omega) (fun g o hx => by
        split at hx
        · next e =>
          injection hx with hx
          subst e hx
          exact ⟨by omega, by omega, (HAG.out _ (by omega) (by have := HB3.out.size; omega)).trans (ROW.out w3 HB3.out).2.2.2⟩
        · cases hx) HR1.out)
      have hrc : w4.heap[w.heap.size + 1 + 1]? = some (.cells #[.int .i64 r.kind, .int .i64 r.id, .string r.name, .string r.digest, .slice A4 n4 c4, .slice A5 n5 c5] 54 (0, 0)) := (HAG.out _ (by omega) (by have := HB3.out.size; omega)).trans (ROW.out w3 HB3.out).2.2.1
      have HB4w : Hid (Below w.heap.size w w4) := Lib.hid ((HAL.out _ HB3.out).trans (HBE.out.mono (by omega)))
      have y0 := (cell_of_row _ _ 0 _ _ _ hrc).trans (show _ = some (.int .i64 r.kind : Value) from rfl)
      have y1 := (cell_of_row _ _ 1 _ _ _ hrc).trans (show _ = some (.int .i64 r.id : Value) from rfl)
      have y2 := (cell_of_row _ _ 2 _ _ _ hrc).trans (show _ = some (.string r.name : Value) from rfl)
      have y3 := (cell_of_row _ _ 3 _ _ _ hrc).trans (show _ = some (.string r.digest : Value) from rfl)
      have y4 := (cell_of_row _ _ 4 _ _ _ hrc).trans (show _ = some (.slice A4 n4 c4 : Value) from rfl)
      have y5 := (cell_of_row _ _ 5 _ _ _ hrc).trans (show _ = some (.slice A5 n5 c5 : Value) from rfl)
      have HDO := Lib.hid (DoAll_c (r := r) HOB4.out (bookOk_sorted HBK.out) ⟨HLS.out.1, by have := HLS.out.2.1; omega, by have := HLS.out.2.2; omega⟩ ⟨by have := (book_parts HBK.out).2.1; omega, by have := (book_parts HBK.out).2.1; omega⟩ HST.out (HL4.out.all HB4w.out) (HS5.out.all HB4w.out) (fun q hq => by omega) ⟨by have := (recOk_facts HRK.out).2.2.2.1; have := HL4.out.len; omega, by have := (recOk_facts HRK.out).2.2.2.2; have := HS5.out.len; omega⟩ HRK.out)
      clear hrc HOB HAG HR1 HBE
      go_wp2_with fail
      refine HDO.out.mono ?_
      clear y0 y1 y2 y3 y4 y5 HDO
      rintro e w5 hdo
      have hO5 := hdo.2.1
      have he := hdo.1
      have HB5 := Lib.hid (HB4w.out.trans (hdo.2.2.mono (by omega)))
      have hsz5 := hdo.2.2.size
      clear hdo
      cases hdr : doR b r with
      | none =>
        rw [hdr] at he
        have he2 : e = .returned (.int .i64 3) := he
        clear he
        subst he2
        have HE : Hid (applyR s b r = (⟨[], [], [], 0⟩, 3)) := Lib.hid (by rw [HAP.out, hdr])
        clear hdr
        obtain ⟨D0, d0, e0, D1, d1, e1, D2, d2, e2, hob5⟩ := hO5
        obtain ⟨_, _, _, _, r4⟩ := hob5.ex (w.heap.size + 1 + 1 + 1) _ (if_pos rfl)
        clear hob5
        have f0 := (cell_of_row _ _ 0 _ _ _ r4).trans (show _ = some (.slice none 0 0 : Value) from rfl)
        have f1 := (cell_of_row _ _ 1 _ _ _ r4).trans (show _ = some (.slice none 0 0 : Value) from rfl)
        have f2 := (cell_of_row _ _ 2 _ _ _ r4).trans (show _ = some (.slice none 0 0 : Value) from rfl)
        have f3 := (cell_of_row _ _ 3 _ _ _ r4).trans (show _ = some (.int .i64 0 : Value) from rfl)
        have g0 := frozen_of_row _ _ 0 _ _ r4
        have g1 := frozen_of_row _ _ 1 _ _ r4
        have g2 := frozen_of_row _ _ 2 _ _ r4
        have g3 := frozen_of_row _ _ 3 _ _ r4
        have hb6 := box4 (a := .slice none 0 0) (b := .slice none 0 0) (c := .slice none 0 0) (d := .int .i64 0) r4
        have HFIN := Lib.hid (hb6.2.1 w.heap.size (by omega))
        clear r4 hb6
        go_wp2
        refine bodyPost_ret (v := .tuple #[.agg #[.slice none 0 0, .slice none 0 0, .slice none 0 0, .int .i64 0], .int .i64 3]) (by simp [results, Try.results25, go_sem, *]; done) rfl ?_
        exact ⟨none, 0, 0, none, 0, 0, none, 0, 0, by rw [HE.out], by rw [HE.out]; exact ⟨Sl.nil_ (by omega), Sl.nil_ (by omega), Sl.nil_ (by omega), (show I64 0 by unfold I64; omega)⟩, HB5.out.trans HFIN.out⟩
      | some b' =>
        rw [hdr] at he hO5
        have he2 : e = .returned (.int .i64 0) := he
        clear he
        subst he2
        have HE : Hid (applyR s b r = (b', 0)) := Lib.hid (by rw [HAP.out, hdr])
        clear hdr
        obtain ⟨D0, d0, e0, D1, d1, e1, D2, d2, e2, hob5⟩ := hO5
        have r7 := hob5.row
        obtain ⟨_, _, _, _, r4⟩ := hob5.ex (w.heap.size + 1 + 1 + 1) _ (if_pos rfl)
        have HOB5 := Lib.hid hob5; clear hob5
        have x0 := (cell_of_row _ _ 0 _ _ _ r7).trans (show _ = some (.slice D0 d0 e0 : Value) from rfl)
        have x1 := (cell_of_row _ _ 1 _ _ _ r7).trans (show _ = some (.slice D1 d1 e1 : Value) from rfl)
        have x2 := (cell_of_row _ _ 2 _ _ _ r7).trans (show _ = some (.slice D2 d2 e2 : Value) from rfl)
        have x3 := (cell_of_row _ _ 3 _ _ _ r7).trans (show _ = some (.int .i64 b'.next : Value) from rfl)
        have f0 := (cell_of_row _ _ 0 _ _ _ r4).trans (show _ = some (.slice none 0 0 : Value) from rfl)
        have f1 := (cell_of_row _ _ 1 _ _ _ r4).trans (show _ = some (.slice none 0 0 : Value) from rfl)
        have f2 := (cell_of_row _ _ 2 _ _ _ r4).trans (show _ = some (.slice none 0 0 : Value) from rfl)
        have f3 := (cell_of_row _ _ 3 _ _ _ r4).trans (show _ = some (.int .i64 0 : Value) from rfl)
        have g0 := frozen_of_row _ _ 0 _ _ r4
        have g1 := frozen_of_row _ _ 1 _ _ r4
        have g2 := frozen_of_row _ _ 2 _ _ r4
        have g3 := frozen_of_row _ _ 3 _ _ r4
        have hb6 := box4 (a := .slice D0 d0 e0) (b := .slice D1 d1 e1) (c := .slice D2 d2 e2) (d := .int .i64 b'.next) r4
        have HFIN := Lib.hid (hb6.2.1 w.heap.size (by omega))
        have HRD := Lib.hid (HOB5.out.readAvoid r4 hb6.2.2 (by simp))
        clear r4 r7 hb6
        go_wp2
        refine bodyPost_ret (v := .tuple #[.agg #[.slice D0 d0 e0, .slice D1 d1 e1, .slice D2 d2 e2, .int .i64 b'.next], .int .i64 0]) (by simp [results, Try.results25, go_sem, *]; done) rfl ?_
        refine ⟨D0, d0, e0, D1, d1, e1, D2, d2, e2, by rw [HE.out], ?_, HB5.out.trans HFIN.out⟩
        rw [HE.out]
        exact HRD.out.mono (fun q hq _ => by omega)
end Go.Proofs.Ytipecejghioicaa
