/- book.Of: the book that records make. Printed by gen_y18.py. -/
import Derived.Test.YtipecejghioicaaY17r
import Derived.Test.YtipecejghioicaaY8r
import Derived.Deep.CutRange
import Derived.Deep.Light
namespace Go.Silo
open Go Go.RowKit
theorem box4 {w : World} {g : Nat} {a b c d a' b' c' d' : Value} {T : TypeId} (h : w.heap[g]? = some (.cells #[a', b', c', d'] T (0, 0))) :
    ((((w.setCell ⟨g, 0, none⟩ a).setCell ⟨g, 1, none⟩ b).setCell ⟨g, 2, none⟩ c).setCell ⟨g, 3, none⟩ d).heap[g]? = some (.cells #[a, b, c, d] T (0, 0)) ∧
    (∀ B, B ≤ g → Below B w ((((w.setCell ⟨g, 0, none⟩ a).setCell ⟨g, 1, none⟩ b).setCell ⟨g, 2, none⟩ c).setCell ⟨g, 3, none⟩ d)) ∧
    Agree (fun q => q ≠ g) w ((((w.setCell ⟨g, 0, none⟩ a).setCell ⟨g, 1, none⟩ b).setCell ⟨g, 2, none⟩ c).setCell ⟨g, 3, none⟩ d) :=
  ⟨setAll_4 (a := a) (b := b) (c := c) (d := d) h, fun B hB => setAll_below hB [a, b, c, d] 0 w (Below.refl B w), fun _ hq _ => setAll_other hq [a, b, c, d] 0 w⟩
end Go.Silo
namespace Go.Proofs.Ytipecejghioicaa
open Go.RowKit Go.Silo
/-- The book of records, or the error. -/
def ofR (s : Shape) (l : List Record) : Book × Int :=
  if (shapeOk s && !(l.any fun r => !recOk r)) = true then (match foldDo l with | none => (⟨[], [], [], 0⟩, 3) | some b => if bookOk s b = true then (b, 0) else (⟨[], [], [], 0⟩, 7)) else (⟨[], [], [], 0⟩, 1)
def RetOf (r : Book × Int) (w : World) (e : Ending) (w' : World) : Prop :=
  ∃ A0 n0 c0 A1 n1 c1 A2 n2 c2, e = .returned (.tuple #[.agg #[.slice A0 n0 c0, .slice A1 n1 c1, .slice A2 n2 c2, .int .i64 r.1.next], .int .i64 r.2]) ∧ BookR w' (fun q => w.heap.size ≤ q) true true true true A0 n0 c0 A1 n1 c1 A2 n2 c2 r.1 ∧ Below w.heap.size w w'
set_option maxRecDepth 100000 in
set_option maxHeartbeats 16000000 in
theorem Of_c {tg : Bool} {S : Nat → Prop} {w : World} {A : Option Addr} {n c : Nat} {s : Shape} {l : List Record} (hsi : I64 s.K ∧ I64 s.M ∧ I64 s.size) (h : Sl tg 54 (recordE tg) w S A n c l) (hn : n ≤ 4000) (ht : (l.map (fun r => r.list.length)).sum ≤ 1000000) :
    Calls Try.prog 8 #[.agg #[.int .i64 s.K, .int .i64 s.M, .int .i64 s.size], .slice A n c] w (RetOf (ofR s l) w) := by
  have HL := Lib.hid h.len
  have HSI := Lib.hid hsi
  have HT := Lib.hid ht
  clear hsi ht
  have hal : Below w.heap.size w ((w.alloc (.cells #[.int .i64 s.K, .int .i64 s.M, .int .i64 s.size] 23)).alloc (.cells #[.slice none 0 0, .slice none 0 0, .slice none 0 0, .int .i64 0] 28)) := (by repeat' (first | (with_reducible exact Below.refl _ _) | (with_reducible refine Below.alloc ?_ ?_ _) | (with_reducible refine Below.drew ?_) | (with_reducible refine below_drewN ?_ _) | (with_reducible refine Below.setCell ?_ ?_ _) | (refine via ?_ (by with_reducible assumption) ?_) | (refine via ?_ (below_ext _ _) ?_) | go_size))
  have hr0 : ((w.alloc (.cells #[.int .i64 s.K, .int .i64 s.M, .int .i64 s.size] 23)).alloc (.cells #[.slice none 0 0, .slice none 0 0, .slice none 0 0, .int .i64 0] 28)).heap[w.heap.size]? = some (.cells #[.int .i64 s.K, .int .i64 s.M, .int .i64 s.size] 23 (0, 0)) := by
    rw [Below.heap_alloc _ _ _ (by simp; try omega)]
    have := heap_alloc_new w (.cells #[.int .i64 s.K, .int .i64 s.M, .int .i64 s.size] 23)
    simpa only [World.size_alloc] using this
  have hr1 : ((w.alloc (.cells #[.int .i64 s.K, .int .i64 s.M, .int .i64 s.size] 23)).alloc (.cells #[.slice none 0 0, .slice none 0 0, .slice none 0 0, .int .i64 0] 28)).heap[w.heap.size + 1]? = some (.cells #[.slice none 0 0, .slice none 0 0, .slice none 0 0, .int .i64 0] 28 (0, 0)) := by
    have := heap_alloc_new (w.alloc (.cells #[.int .i64 s.K, .int .i64 s.M, .int .i64 s.size] 23)) (.cells #[.slice none 0 0, .slice none 0 0, .slice none 0 0, .int .i64 0] 28)
    simpa only [World.size_alloc] using this
  have hz : w.heap.size + 1 < ((w.alloc (.cells #[.int .i64 s.K, .int .i64 s.M, .int .i64 s.size] 23)).alloc (.cells #[.slice none 0 0, .slice none 0 0, .slice none 0 0, .int .i64 0] 28)).heap.size := by simp
  have HS := Lib.hid (fun W (hW : Below w.heap.size w W) => h.all hW)
  clear h
  go_enter Try.func8, Try.ntmps8
  go_upto_region 2 with (fail)
  generalize ((w.alloc (.cells #[.int .i64 s.K, .int .i64 s.M, .int .i64 s.size] 23)).alloc (.cells #[.slice none 0 0, .slice none 0 0, .slice none 0 0, .int .i64 0] 28)) = W0 at *
  have HAL := Lib.hid (fun V (hV : Below W0.heap.size W0 V) => hal.trans (hV.mono hal.size)); clear hal
  have ROW := Lib.hid (fun V (hV : Below W0.heap.size W0 V) => (show V.heap[w.heap.size]? = some (.cells #[.int .i64 s.K, .int .i64 s.M, .int .i64 s.size] 23 (0, 0)) ∧ V.heap[w.heap.size + 1]? = some (.cells #[.slice none 0 0, .slice none 0 0, .slice none 0 0, .int .i64 0] 28 (0, 0)) from ⟨(hV.block _ (by omega)).trans hr0, (hV.block _ (by omega)).trans hr1⟩))
  clear hr0 hr1
  have hz1 : w.heap.size + 1 < W0.heap.size := by omega
  obtain ⟨r0, r1⟩ := ROW.out W0 (Below.refl _ _)
  have b00 := (cell_of_row _ _ 0 _ _ _ r0).trans (show _ = some (.int .i64 s.K : Value) from rfl)
  have b01 := (cell_of_row _ _ 1 _ _ _ r0).trans (show _ = some (.int .i64 s.M : Value) from rfl)
  have b02 := (cell_of_row _ _ 2 _ _ _ r0).trans (show _ = some (.int .i64 s.size : Value) from rfl)
  clear r0 r1
  go_wp2_with fail
  refine (codeMay_c (s := s)).mono ?_
  clear b00 b01 b02
  rintro e w1 ⟨rfl, hb1⟩
  have HB1 := Lib.hid hb1; clear hb1
  obtain ⟨sh, hsh⟩ : ∃ sh, sh = shapeOk s := ⟨_, rfl⟩
  rw [← hsh]
  have HSH := Lib.hid hsh.symm; clear hsh
  cases sh with
  | false =>
    have HE : Hid (ofR s l = (⟨[], [], [], 0⟩, 1)) := Lib.hid (by unfold ofR; rw [HSH.out]; rfl)
    obtain ⟨_, r4⟩ := ROW.out w1 HB1.out
    have f0 := (cell_of_row _ _ 0 _ _ _ r4).trans (show _ = some (.slice none 0 0 : Value) from rfl)
    have f1 := (cell_of_row _ _ 1 _ _ _ r4).trans (show _ = some (.slice none 0 0 : Value) from rfl)
    have f2 := (cell_of_row _ _ 2 _ _ _ r4).trans (show _ = some (.slice none 0 0 : Value) from rfl)
    have f3 := (cell_of_row _ _ 3 _ _ _ r4).trans (show _ = some (.int .i64 0 : Value) from rfl)
    have g0 := frozen_of_row _ _ 0 _ _ r4
    have g1 := frozen_of_row _ _ 1 _ _ r4
    have g2 := frozen_of_row _ _ 2 _ _ r4
    have g3 := frozen_of_row _ _ 3 _ _ r4
    have hb4 := box4 (a := .slice none 0 0) (b := .slice none 0 0) (c := .slice none 0 0) (d := .int .i64 0) r4
    have HFIN := Lib.hid (hb4.2.1 w.heap.size (by omega))
    have HUP := Lib.hid (HAL.out _ HB1.out)
    clear r4 hb4
    go_wp2
    refine bodyPost_ret (v := .tuple #[.agg #[.slice none 0 0, .slice none 0 0, .slice none 0 0, .int .i64 0], .int .i64 1]) (by simp [results, Try.results8, go_sem, *]; done) rfl ?_
    exact ⟨none, 0, 0, none, 0, 0, none, 0, 0, by rw [HE.out], by rw [HE.out]; exact ⟨Sl.nil_ (by omega), Sl.nil_ (by omega), Sl.nil_ (by omega), (show I64 0 by unfold I64; omega)⟩, HUP.out.trans HFIN.out⟩
  | true =>
    go_wp2_with fail
    refine (ContainsFunc_rec (HS.out _ (HAL.out _ HB1.out))).mono ?_
    rintro e w2 ⟨rfl, hb2⟩
    have HB2 := Lib.hid (HB1.out.trans (hb2.mono HB1.out.size)); clear hb2
    obtain ⟨an, han⟩ : ∃ an, an = l.any (fun r => !recOk r) := ⟨_, rfl⟩
    rw [← han]
    have HAN := Lib.hid han.symm; clear han
    cases an with
    | true =>
      have HE : Hid (ofR s l = (⟨[], [], [], 0⟩, 1)) := Lib.hid (by unfold ofR; rw [HSH.out, HAN.out]; rfl)
      obtain ⟨_, r4⟩ := ROW.out w2 HB2.out
      have f0 := (cell_of_row _ _ 0 _ _ _ r4).trans (show _ = some (.slice none 0 0 : Value) from rfl)
      have f1 := (cell_of_row _ _ 1 _ _ _ r4).trans (show _ = some (.slice none 0 0 : Value) from rfl)
      have f2 := (cell_of_row _ _ 2 _ _ _ r4).trans (show _ = some (.slice none 0 0 : Value) from rfl)
      have f3 := (cell_of_row _ _ 3 _ _ _ r4).trans (show _ = some (.int .i64 0 : Value) from rfl)
      have g0 := frozen_of_row _ _ 0 _ _ r4
      have g1 := frozen_of_row _ _ 1 _ _ r4
      have g2 := frozen_of_row _ _ 2 _ _ r4
      have g3 := frozen_of_row _ _ 3 _ _ r4
      have hb4 := box4 (a := .slice none 0 0) (b := .slice none 0 0) (c := .slice none 0 0) (d := .int .i64 0) r4
      have HFIN := Lib.hid (hb4.2.1 w.heap.size (by omega))
      have HUP := Lib.hid (HAL.out _ HB2.out)
      clear r4 hb4
      go_wp2
      refine bodyPost_ret (v := .tuple #[.agg #[.slice none 0 0, .slice none 0 0, .slice none 0 0, .int .i64 0], .int .i64 1]) (by simp [results, Try.results8, go_sem, *]; done) rfl ?_
      exact ⟨none, 0, 0, none, 0, 0, none, 0, 0, by rw [HE.out], by rw [HE.out]; exact ⟨Sl.nil_ (by omega), Sl.nil_ (by omega), Sl.nil_ (by omega), (show I64 0 by unfold I64; omega)⟩, HUP.out.trans HFIN.out⟩
    | false =>
      have HOF : Hid (ofR s l = (match foldDo l with | none => (⟨[], [], [], 0⟩, 3) | some b => if bookOk s b = true then (b, 0) else (⟨[], [], [], 0⟩, 7))) := Lib.hid (by unfold ofR; rw [HSH.out, HAN.out]; rfl)
      have HALL : Hid (∀ k, k < n → recOk (l.getD k default) = true) := Lib.hid (fun k hk => by
        have h1 := List.any_eq_false.1 HAN.out _ (mem_at (d := default) (by rw [HL.out]; exact hk))
        simpa using h1)
      go_upto_region 7 with (fail)
      have hrow7 := heap_alloc_new w2 (.cells #[.slice none 0 0, .slice none 0 0, .slice none 0 0, .int .i64 0] 28)
      have hal7 : Below w2.heap.size w2 (w2.alloc (.cells #[.slice none 0 0, .slice none 0 0, .slice none 0 0, .int .i64 0] 28)) := (Below.refl _ _).alloc (Nat.le_refl _) _
      have hl7 : w2.heap.size < (w2.alloc (.cells #[.slice none 0 0, .slice none 0 0, .slice none 0 0, .int .i64 0] 28)).heap.size := by simp
      generalize (w2.alloc (.cells #[.slice none 0 0, .slice none 0 0, .slice none 0 0, .int .i64 0] 28)) = w3 at *
      have HOB0 := Lib.hid (show OB (fun _ => none) w2.heap.size w2.heap.size none 0 0 none 0 0 none 0 0 ⟨[], [], [], 0⟩ w3 from ⟨hrow7, Own.nil_, Own.nil_, Own.nil_, ⟨by simp [ablk], by simp [ablk], by simp [ablk], by simp [ablk], by simp [ablk], by simp [ablk]⟩, (show I64 0 by unfold I64; omega), Nat.le_refl _, fun g o hx => by cases hx⟩)
      have HB3 := Lib.hid hal7; clear hal7 hrow7 hl7
      go_wp2_with fail
      go_loopw [28] (fun iv wr => ∃ k : Nat, k ≤ n ∧ iv = .int .i64 k ∧ Hid (Below w2.heap.size w2 wr) ∧ Hid (∃ b, foldDo (l.take k) = some b ∧ BInv b k ((l.take k).map (fun r => r.list.length)).sum ∧ ∃ A0 n0 c0 A1 n1 c1 A2 n2 c2, OB (fun _ => none) w2.heap.size w2.heap.size A0 n0 c0 A1 n1 c1 A2 n2 c2 b wr)) (fun iv _ => n - (intOf iv).toNat)
      case atStart => exact ⟨0, Nat.zero_le _, rfl, HB3, Lib.hid ⟨_, rfl, BInv.start, _, _, _, _, _, _, _, _, _, HOB0.out⟩⟩
      case round =>
        rename World => wo
        obtain ⟨k, hk, rfl, HBo, HIN⟩ := hrel
        obtain ⟨b, hfd, hinv, A0, n0, c0, A1, n1, c1, A2, n2, c2, hob⟩ := HIN.out
        clear HIN
        have HFD := Lib.hid hfd; clear hfd
        have HINV := Lib.hid hinv; clear hinv
        have HOB := Lib.hid hob; clear hob
        have HBT := Lib.hid (HB2.out.trans (HBo.out.mono HB2.out.size))
        by_cases hlt : k < n
        · have hrec := (HS.out w2 (HAL.out _ HB2.out)).record_at hlt
          obtain ⟨bs, os, A4, n4, c4, A5, n5, c5, eA, _, hbs, _, _, g3, g4, hl4, hs5, q0, q1, q2, q3, q4, q5, _⟩ := hrec
          subst eA
          have u0 := (HBo.out.cell (p := ⟨bs, os + k * 6, none⟩) hbs).trans q0
          have u1 := (HBo.out.cell (p := ⟨bs, os + k * 6 + 1, none⟩) hbs).trans q1
          have u2 := (HBo.out.cell (p := ⟨bs, os + k * 6 + 2, none⟩) hbs).trans q2
          have u3 := (HBo.out.cell (p := ⟨bs, os + k * 6 + 3, none⟩) hbs).trans q3
          have u4 := (HBo.out.cell (p := ⟨bs, os + k * 6 + 4, none⟩) hbs).trans q4
          have u5 := (HBo.out.cell (p := ⟨bs, os + k * 6 + 5, none⟩) hbs).trans q5
          clear q0 q1 q2 q3 q4 q5
          have hbo := Nat.lt_of_lt_of_le hbs HBo.out.size
          have HOK := Lib.hid (HALL.out k hlt)
          have hkl : k < l.length := by rw [HL.out]; exact hlt
          have HTK := Lib.hid (take_snoc_getD (d := default) hkl)
          generalize l.getD k default = r at *
          have HST := Lib.hid (And.intro g3 g4); clear g3 g4 hkl
          have HL4 := Lib.hid ((hl4.lt_block.mono (S' := fun q => q < w2.heap.size) (fun _ h _ => h.2)).all HBo.out)
          have HS5 := Lib.hid ((hs5.lt_block.mono (S' := fun q => q < w2.heap.size) (fun _ h _ => h.2)).all HBo.out)
          clear hl4 hs5
          go_upto_region 10 with (fail)
          have hal : Below wo.heap.size wo (wo.alloc (.cells #[.int .i64 r.kind, .int .i64 r.id, .string r.name, .string r.digest, .slice A4 n4 c4, .slice A5 n5 c5] 54)) := (Below.refl _ _).alloc (Nat.le_refl _) _
          have hrow := heap_alloc_new wo (.cells #[.int .i64 r.kind, .int .i64 r.id, .string r.name, .string r.digest, .slice A4 n4 c4, .slice A5 n5 c5] 54)
          have HL4b := Lib.hid (HL4.out.all hal)
          have HS5b := Lib.hid (HS5.out.all hal)
          have HOB5 := Lib.hid (HOB.out.all hal)
          have HB5 := Lib.hid (HBo.out.trans (hal.mono HBo.out.size))
          clear hal u0 u1 u2 u3 u4 u5 HL4 HS5 HOB hbo
          have hzw : wo.heap.size < (wo.alloc (.cells #[.int .i64 r.kind, .int .i64 r.id, .string r.name, .string r.digest, .slice A4 n4 c4, .slice A5 n5 c5] 54)).heap.size := by simp
          generalize (wo.alloc (.cells #[.int .i64 r.kind, .int .i64 r.id, .string r.name, .string r.digest, .slice A4 n4 c4, .slice A5 n5 c5] 54)) = w5 at *
          generalize wo.heap.size = g9 at *
          have y0 := (cell_of_row _ _ 0 _ _ _ hrow).trans (show _ = some (.int .i64 r.kind : Value) from rfl)
          have y1 := (cell_of_row _ _ 1 _ _ _ hrow).trans (show _ = some (.int .i64 r.id : Value) from rfl)
          have y2 := (cell_of_row _ _ 2 _ _ _ hrow).trans (show _ = some (.string r.name : Value) from rfl)
          have y3 := (cell_of_row _ _ 3 _ _ _ hrow).trans (show _ = some (.string r.digest : Value) from rfl)
          have y4 := (cell_of_row _ _ 4 _ _ _ hrow).trans (show _ = some (.slice A4 n4 c4 : Value) from rfl)
          have y5 := (cell_of_row _ _ 5 _ _ _ hrow).trans (show _ = some (.slice A5 n5 c5 : Value) from rfl)
          clear hrow
          have HDO := Lib.hid (DoAll_c (r := r) HOB5.out HINV.out.so ⟨by have := HINV.out.ls; have := HOB5.out.st.len; omega, by have := HINV.out.lt; have := HOB5.out.th.len; omega, by have := HINV.out.lg; have := HOB5.out.ta.len; omega⟩ ⟨HINV.out.nx.2, by have := HINV.out.nx.1; omega⟩ HST.out HL4b.out HS5b.out (fun q hq => hq) ⟨by have := (recOk_facts HOK.out).2.2.2.1; have := HL4b.out.len; omega, by have := (recOk_facts HOK.out).2.2.2.2; have := HS5b.out.len; omega⟩ HOK.out)
          go_wp2_with fail
          refine HDO.out.mono ?_
          clear y0 y1 y2 y3 y4 y5 HDO
          rintro e w6 hdo
          have HB6 := Lib.hid (HB5.out.trans hdo.2.2)
          have HT6 := Lib.hid (HB2.out.trans (HB6.out.mono HB2.out.size))
          have hO6 := hdo.2.1
          have he := hdo.1
          clear hdo
          have HF2 : Hid (foldDo (l.take (k + 1)) = doR b r) := Lib.hid (by rw [HTK.out, foldDo_snoc, HFD.out]; rfl)
          cases hdr : doR b r with
          | none =>
            rw [hdr] at he
            have he2 : e = .returned (.int .i64 3) := he
            clear he hO6
            subst he2
            have HE : Hid (ofR s l = (⟨[], [], [], 0⟩, 3)) := Lib.hid (by rw [HOF.out, foldDo_none (k := k + 1) (by rw [HF2.out, hdr])])
            clear hdr
            obtain ⟨_, r4⟩ := ROW.out w6 HT6.out
            have f0 := (cell_of_row _ _ 0 _ _ _ r4).trans (show _ = some (.slice none 0 0 : Value) from rfl)
            have f1 := (cell_of_row _ _ 1 _ _ _ r4).trans (show _ = some (.slice none 0 0 : Value) from rfl)
            have f2 := (cell_of_row _ _ 2 _ _ _ r4).trans (show _ = some (.slice none 0 0 : Value) from rfl)
            have f3 := (cell_of_row _ _ 3 _ _ _ r4).trans (show _ = some (.int .i64 0 : Value) from rfl)
            have g0 := frozen_of_row _ _ 0 _ _ r4
            have g1 := frozen_of_row _ _ 1 _ _ r4
            have g2 := frozen_of_row _ _ 2 _ _ r4
            have g3 := frozen_of_row _ _ 3 _ _ r4
            have hb4 := box4 (a := .slice none 0 0) (b := .slice none 0 0) (c := .slice none 0 0) (d := .int .i64 0) r4
            have HFIN := Lib.hid (hb4.2.1 w.heap.size (by omega))
            have HUP := Lib.hid (HAL.out _ HT6.out)
            clear r4 hb4
            go_wp2
            refine bodyPost_ret (v := .tuple #[.agg #[.slice none 0 0, .slice none 0 0, .slice none 0 0, .int .i64 0], .int .i64 3]) (by simp [results, Try.results8, go_sem, *]; done) rfl ?_
            exact ⟨none, 0, 0, none, 0, 0, none, 0, 0, by rw [HE.out], by rw [HE.out]; exact ⟨Sl.nil_ (by omega), Sl.nil_ (by omega), Sl.nil_ (by omega), (show I64 0 by unfold I64; omega)⟩, HUP.out.trans HFIN.out⟩
          | some b' =>
            rw [hdr] at he hO6
            have he2 : e = .returned (.int .i64 0) := he
            clear he
            subst he2
            have HIN2 : Hid (∃ b, foldDo (l.take (k + 1)) = some b ∧ BInv b (k + 1) ((l.take (k + 1)).map (fun r => r.list.length)).sum ∧ ∃ A0 n0 c0 A1 n1 c1 A2 n2 c2, OB (fun _ => none) w2.heap.size w2.heap.size A0 n0 c0 A1 n1 c1 A2 n2 c2 b w6) := Lib.hid ⟨b', by rw [HF2.out, hdr], by
              have h1 := HINV.out.step HOK.out hdr
              rw [HTK.out, List.map_append, List.sum_append]
              simpa using h1, hO6⟩
            clear hdr hO6
            have hk1 : k + 1 ≤ n := hlt
            go_wp2
            refine ⟨⟨k + 1, hk1, by go_num, HB6, HIN2⟩, ?_⟩
            go_light
            simp [intOf]
            omega
        · obtain rfl : k = n := by omega
          have HFL : Hid (foldDo l = some b) := Lib.hid (by rw [← HFD.out, List.take_of_length_le (by rw [HL.out]; exact Nat.le_refl _)])
          have HO2 : Hid (ofR s l = if bookOk s b = true then (b, 0) else (⟨[], [], [], 0⟩, 7)) := Lib.hid (by rw [HOF.out, HFL.out])
          have HFEW := Lib.hid (HINV.out.few hn (Nat.le_trans (sum_sub (List.Sublist.map _ (List.take_sublist _ _))) HT.out))
          obtain ⟨r2, _⟩ := ROW.out wo HBT.out
          have k0 := (cell_of_row _ _ 0 _ _ _ r2).trans (show _ = some (.int .i64 s.K : Value) from rfl)
          have k1 := (cell_of_row _ _ 1 _ _ _ r2).trans (show _ = some (.int .i64 s.M : Value) from rfl)
          have k2 := (cell_of_row _ _ 2 _ _ _ r2).trans (show _ = some (.int .i64 s.size : Value) from rfl)
          have r7 := HOB.out.row
          have x0 := (cell_of_row _ _ 0 _ _ _ r7).trans (show _ = some (.slice A0 n0 c0 : Value) from rfl)
          have x1 := (cell_of_row _ _ 1 _ _ _ r7).trans (show _ = some (.slice A1 n1 c1 : Value) from rfl)
          have x2 := (cell_of_row _ _ 2 _ _ _ r7).trans (show _ = some (.slice A2 n2 c2 : Value) from rfl)
          have x3 := (cell_of_row _ _ 3 _ _ _ r7).trans (show _ = some (.int .i64 b.next : Value) from rfl)
          clear r2 r7
          go_wp2_with fail
          refine (May_c (s := s) (b := b) HSI.out HFEW.out HOB.out.bookR).mono ?_
          clear k0 k1 k2 x0 x1 x2 x3
          rintro e w7 ⟨rfl, hb7⟩
          have HB7 := Lib.hid (HBT.out.trans (hb7.mono HBT.out.size))
          have HOB7 := Lib.hid (HOB.out.all hb7)
          clear hb7 HOB
          obtain ⟨bk, hbk⟩ : ∃ bk, bk = bookOk s b := ⟨_, rfl⟩
          rw [← hbk] at HO2 ⊢
          clear hbk
          cases bk with
          | false =>
            have HE : Hid (ofR s l = (⟨[], [], [], 0⟩, 7)) := Lib.hid (by rw [HO2.out]; rfl)
            obtain ⟨_, r4⟩ := ROW.out w7 HB7.out
            have f0 := (cell_of_row _ _ 0 _ _ _ r4).trans (show _ = some (.slice none 0 0 : Value) from rfl)
            have f1 := (cell_of_row _ _ 1 _ _ _ r4).trans (show _ = some (.slice none 0 0 : Value) from rfl)
            have f2 := (cell_of_row _ _ 2 _ _ _ r4).trans (show _ = some (.slice none 0 0 : Value) from rfl)
            have f3 := (cell_of_row _ _ 3 _ _ _ r4).trans (show _ = some (.int .i64 0 : Value) from rfl)
            have g0 := frozen_of_row _ _ 0 _ _ r4
            have g1 := frozen_of_row _ _ 1 _ _ r4
            have g2 := frozen_of_row _ _ 2 _ _ r4
            have g3 := frozen_of_row _ _ 3 _ _ r4
            have hb4 := box4 (a := .slice none 0 0) (b := .slice none 0 0) (c := .slice none 0 0) (d := .int .i64 0) r4
            have HFIN := Lib.hid (hb4.2.1 w.heap.size (by omega))
            have HUP := Lib.hid (HAL.out _ HB7.out)
            clear r4 hb4
            go_wp2
            refine bodyPost_ret (v := .tuple #[.agg #[.slice none 0 0, .slice none 0 0, .slice none 0 0, .int .i64 0], .int .i64 7]) (by simp [results, Try.results8, go_sem, *]; done) rfl ?_
            exact ⟨none, 0, 0, none, 0, 0, none, 0, 0, by rw [HE.out], by rw [HE.out]; exact ⟨Sl.nil_ (by omega), Sl.nil_ (by omega), Sl.nil_ (by omega), (show I64 0 by unfold I64; omega)⟩, HUP.out.trans HFIN.out⟩
          | true =>
            have HE : Hid (ofR s l = (b, 0)) := Lib.hid (by rw [HO2.out]; rfl)
            obtain ⟨_, r4⟩ := ROW.out w7 HB7.out
            have f0 := (cell_of_row _ _ 0 _ _ _ r4).trans (show _ = some (.slice none 0 0 : Value) from rfl)
            have f1 := (cell_of_row _ _ 1 _ _ _ r4).trans (show _ = some (.slice none 0 0 : Value) from rfl)
            have f2 := (cell_of_row _ _ 2 _ _ _ r4).trans (show _ = some (.slice none 0 0 : Value) from rfl)
            have f3 := (cell_of_row _ _ 3 _ _ _ r4).trans (show _ = some (.int .i64 0 : Value) from rfl)
            have e0 := frozen_of_row _ _ 0 _ _ r4
            have e1 := frozen_of_row _ _ 1 _ _ r4
            have e2 := frozen_of_row _ _ 2 _ _ r4
            have e3 := frozen_of_row _ _ 3 _ _ r4
            have r7 := HOB7.out.row
            have x0 := (cell_of_row _ _ 0 _ _ _ r7).trans (show _ = some (.slice A0 n0 c0 : Value) from rfl)
            have x1 := (cell_of_row _ _ 1 _ _ _ r7).trans (show _ = some (.slice A1 n1 c1 : Value) from rfl)
            have x2 := (cell_of_row _ _ 2 _ _ _ r7).trans (show _ = some (.slice A2 n2 c2 : Value) from rfl)
            have x3 := (cell_of_row _ _ 3 _ _ _ r7).trans (show _ = some (.int .i64 b.next : Value) from rfl)
            have hb4 := box4 (a := .slice A0 n0 c0) (b := .slice A1 n1 c1) (c := .slice A2 n2 c2) (d := .int .i64 b.next) r4
            have HFIN := Lib.hid (hb4.2.1 w.heap.size (by omega))
            have HUP := Lib.hid (HAL.out _ HB7.out)
            have HAG := Lib.hid hb4.2.2
            have HW2 := Lib.hid (show w.heap.size + 1 < w2.heap.size from Nat.lt_of_lt_of_le hz1 HB2.out.size)
            clear r4 hb4 r7
            go_wp2
            refine bodyPost_ret (v := .tuple #[.agg #[.slice A0 n0 c0, .slice A1 n1 c1, .slice A2 n2 c2, .int .i64 b.next], .int .i64 0]) (by simp [results, Try.results8, go_sem, *]; done) rfl ?_
            refine ⟨A0, n0, c0, A1, n1, c1, A2, n2, c2, by rw [HE.out], ?_, HUP.out.trans HFIN.out⟩
            rw [HE.out]
            have hup : ∀ q, (NS w2.heap.size A0 A1 A2 q ∨ w2.heap.size ≤ q) → w.heap.size + 1 < q := fun q hq => by
              have h1 := HW2.out
              rcases hq with hq | hq
              · have h2 := hq.1; omega
              · omega
            have hA : Agree (fun q => w.heap.size + 1 < q) w7 _ := HAG.out.mono (fun q hq _ => Nat.ne_of_gt hq)
            have t0 := (((HOB7.out.st.sl (tg := true)).mono (S' := fun q => w.heap.size + 1 < q) (fun q hq _ => hup q hq)).frame hA (by simp)).mono (S' := fun q => w.heap.size ≤ q) (fun q hq _ => by omega)
            have t1 := (((HOB7.out.th.sl (tg := true)).mono (S' := fun q => w.heap.size + 1 < q) (fun q hq _ => hup q hq)).frame hA (by simp)).mono (S' := fun q => w.heap.size ≤ q) (fun q hq _ => by omega)
            have t2 := (((HOB7.out.ta.sl (tg := true)).mono (S' := fun q => w.heap.size + 1 < q) (fun q hq _ => hup q hq)).frame hA (by simp)).mono (S' := fun q => w.heap.size ≤ q) (fun q hq _ => by omega)
            exact ⟨t0, t1, t2, HOB7.out.nx⟩
end Go.Proofs.Ytipecejghioicaa
