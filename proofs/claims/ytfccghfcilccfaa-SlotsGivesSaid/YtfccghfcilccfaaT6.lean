/- slots.Give. -/
import Derived.Test.YtfccghfcilccfaaG0
import Derived.Test.YtfccghfcilccfaaB3
namespace Go.Proofs.Ytfccghfcilccfaa
open Go.RowKit Go.Silo

/-- The worlds between the steps of 'x.Free[s.Disk] = slices.Insert(..)'. -/
def WdGive (W5 : World) (Ad : Option Addr) (l : List Int) (a : Int) (b1 o1 lo hi pos : Nat) : List Value → World → Prop
  | [], w' => w' = W5.drew
  | [u], w' => u = .slice (some ⟨W5.heap.size, 0, none⟩) 1 1 ∧ w' = W5.drew.alloc (.cells #[.int .i64 a] 3)
  | [_, v], w' => ∃ A6 c6, v = .slice A6 (l.length + 1) c6 ∧ Sl true 3 intE w' (fun b => (lo ≤ b ∧ b < hi) ∨ (W5.drew.alloc (.cells #[.int .i64 a] 3)).heap.size ≤ b) A6 (l.length + 1) c6 (insAt pos a l) ∧ (W5.drew.alloc (.cells #[.int .i64 a] 3)).grownBy w' (ablk Ad)
  | _, w' => ∃ w6 A6 c6, Sl true 3 intE w6 (fun b => (lo ≤ b ∧ b < hi) ∨ (W5.drew.alloc (.cells #[.int .i64 a] 3)).heap.size ≤ b) A6 (l.length + 1) c6 (insAt pos a l) ∧ (W5.drew.alloc (.cells #[.int .i64 a] 3)).grownBy w6 (ablk Ad) ∧ w' = w6.setCell ⟨b1, o1, none⟩ (.slice A6 (l.length + 1) c6)

set_option maxRecDepth 100000 in
set_option maxHeartbeats 4000000 in
theorem Give_c {tg : Bool} {S : Nat → Prop} {w : World} {A0 A1 : Option Addr} {n0 c0 n1 c1 : Nat} {x : SlotsD} {d a : Int} (hId : I64 d) (hIa : I64 a)
    (h0 : Sl tg 4 boolE w S A0 n0 c0 x.live) (h1 : Sl tg 52 (slE tg 3 intE) w S A1 n1 c1 x.free) :
    Calls Try.prog 78 #[.agg #[.slice A0 n0 c0, .slice A1 n1 c1], .agg #[.int .i64 d, .int .i64 a]] w (RetSE w (giveR x d a)) := by
  have HL0 := Lib.hid h0.len
  have HL1 := Lib.hid h1.len
  have bad := @giveR_bad x d a
  have there := @giveR_there x d a
  have ok := @giveR_ok x d a
  have hok := @slotsOk_of x
  rw [h0.len] at bad ok there
  generalize hr : slotsOkB x = r at *
  have HR := Lib.hid hr; clear hr
  generalize hR : giveR x d a = R at *
  clear hR
  have hbad : r = false ∨ ¬ (0 ≤ d ∧ d < (n0 : Int) ∧ 0 ≤ a ∧ a < 64) → R = (⟨[], []⟩, 1) := fun h => bad (h.elim (fun h h2 => by rw [h] at h2; cases h2.1) (fun h h2 => h h2.2))
  have HBAD := Lib.hid hbad; clear hbad bad
  have HT := Lib.hid there; clear there
  have HO := Lib.hid ok; clear ok
  have HK := Lib.hid hok; clear hok
  go_enter Try.func78, Try.ntmps78
  go_wp2_with fail
  refine (slotsMay_c (h0.all (by repeat' (first | (with_reducible exact Below.refl _ _) | (with_reducible refine Below.alloc ?_ ?_ _) | (with_reducible refine Below.drew ?_) | (with_reducible refine below_drewN ?_ _) | (with_reducible refine Below.setCell ?_ ?_ _) | (refine via ?_ (by with_reducible assumption) ?_) | (refine via ?_ (below_ext _ _) ?_) | go_size))) (h1.all (by repeat' (first | (with_reducible exact Below.refl _ _) | (with_reducible refine Below.alloc ?_ ?_ _) | (with_reducible refine Below.drew ?_) | (with_reducible refine below_drewN ?_ _) | (with_reducible refine Below.setCell ?_ ?_ _) | (refine via ?_ (by with_reducible assumption) ?_) | (refine via ?_ (below_ext _ _) ?_) | go_size)))).mono ?_
  rintro e w1 ⟨rfl, hb1⟩
  rw [HR.out]
  (obtain ⟨hc_w1, hf_w1⟩ := bcell hb1; have z_w1_0 : w.heap.size < w1.heap.size := (by have := hb1.size; first | omega | (simp at this; omega)); have z_w1_1 : w.heap.size + 1 < w1.heap.size := (by have := hb1.size; first | omega | (simp at this; omega)); have z_w1_2 : w.heap.size + 1 + 1 < w1.heap.size := (by have := hb1.size; first | omega | (simp at this; omega)))
  cases r with
  | false =>
    have HRR : Hid (R = (⟨[], []⟩, 1)) := Lib.hid (HBAD.out (.inl rfl))
    go_wp2
    refine bodyPost_ret (v := .tuple #[.agg #[.slice none 0 0, .slice none 0 0], .int .i64 1]) (by simp [results, Try.results78, go_sem, *]; done) rfl ?_
    exact RetSE.bad HRR.out (by repeat' (first | (with_reducible exact Below.refl _ _) | (with_reducible refine Below.alloc ?_ ?_ _) | (with_reducible refine Below.drew ?_) | (with_reducible refine below_drewN ?_ _) | (with_reducible refine Below.setCell ?_ ?_ _) | (refine via ?_ (by with_reducible assumption) ?_) | (refine via ?_ (below_ext _ _) ?_) | go_size))
  | true =>
    by_cases hn : 0 ≤ d ∧ d < (n0 : Int) ∧ 0 ≤ a ∧ a < 64
    · have HTT : Hid ((x.free.getD d.toNat []).contains a = true → R = (⟨[], []⟩, 4)) := Lib.hid (HT.out ⟨rfl, hn⟩)
      have HRR : Hid (¬ (x.free.getD d.toNat []).contains a = true → R = (giveX x d.toNat a, 0)) := Lib.hid (HO.out ⟨rfl, hn⟩)
      clear HT HO HBAD
      obtain ⟨hd1, hd2, hn1, hn2⟩ := hn
      obtain ⟨d, rfl⟩ := Int.eq_ofNat_of_zero_le hd1
      have hx := HK.out rfl
      have hx1 := hx.one
      have hx2 := hx.most
      have hx3 := hx.same
      have e0 := HL0.out
      have e1 := HL1.out
      have hn0' : n0 ≤ 12 := by omega
      have hn1' : n1 = n0 := by omega
      have hdn : d < n0 := by omega
      have HF : Hid (∀ l ∈ x.free, l.length ≤ 100000000) := Lib.hid (fun l hl => by have := pigeon (hx.free l hl); omega)
      have hdl : d < x.free.length := by omega
      have HRI : Hid (Rising (x.free.getD d [])) := Lib.hid (hx.free _ (getD_mem hdl))
      have hl64 := pigeon HRI.out
      have hget : x.free[d]? = some (x.free.getD d []) := by rw [List.getD_eq_getElem?_getD, List.getElem?_eq_getElem hdl]; rfl
      have HGET := Lib.hid hget; clear hget
      clear hx hx1 hx2 hx3 e0 e1
      subst hn1'
      go_wp2_with fail
      refine (OwnX_c (h0.all (by repeat' (first | (with_reducible exact Below.refl _ _) | (with_reducible refine Below.alloc ?_ ?_ _) | (with_reducible refine Below.drew ?_) | (with_reducible refine below_drewN ?_ _) | (with_reducible refine Below.setCell ?_ ?_ _) | (refine via ?_ (by with_reducible assumption) ?_) | (refine via ?_ (below_ext _ _) ?_) | go_size))) (h1.all (by repeat' (first | (with_reducible exact Below.refl _ _) | (with_reducible refine Below.alloc ?_ ?_ _) | (with_reducible refine Below.drew ?_) | (with_reducible refine below_drewN ?_ _) | (with_reducible refine Below.setCell ?_ ?_ _) | (refine via ?_ (by with_reducible assumption) ?_) | (refine via ?_ (below_ext _ _) ?_) | go_size))) (by omega) (by omega) HF.out).mono ?_
      rintro e w2 ⟨A3, n3, c3, A4, n4, c4, ys, rfl, hs0, hs1, hrows, hb2⟩
      (obtain ⟨hc_w2, hf_w2⟩ := bcell hb2; have z_w2_0 : w.heap.size < w2.heap.size := (by have := hb2.size; first | omega | (simp at this; omega)); have z_w2_1 : w.heap.size + 1 < w2.heap.size := (by have := hb2.size; first | omega | (simp at this; omega)); have z_w2_2 : w.heap.size + 1 + 1 < w2.heap.size := (by have := hb2.size; first | omega | (simp at this; omega)))
      obtain rfl : n3 = n1 := by have := hs0.len; have := HL0.out; omega
      obtain rfl : n4 = n3 := by have h1 := hs1.len; have h2 := hrows.lists; have h3 := HL1.out; rw [← h2, List.length_map] at h3; omega
      obtain ⟨yd, hyd⟩ : ∃ yd, ys[d]? = some yd := ⟨_, List.getElem?_eq_getElem (by have := hs1.len; omega)⟩
      have hyl : yd.1 = x.free.getD d [] := by
        have h2 := hrows.lists
        have h3 := HGET.out
        rw [← h2, List.getElem?_map, hyd] at h3
        injection h3 with h3
        rw [h2] at h3
        exact h3
      obtain ⟨b1, off1, v1, rfl, hS1, hbl1, ⟨Ad, cd, hv1, hod, hrd, hhi, hSd⟩, hc1, hf1⟩ := hs1.at1 rowE_sz hdn hyd
      injection hv1 with hv1; subst hv1
      obtain ⟨l, lo, hi⟩ := yd
      simp only at hyl hod hrd hhi hSd
      rw [show ((d : Nat) : Int).toNat = d from rfl] at HTT HRR
      have HRR2 : Hid (¬ (x.free.getD d []).contains a = true → R = (⟨x.live, x.free.set d (insAt ((x.free.getD d []).countP (· < a)) a (x.free.getD d []))⟩, 0)) := HRR
      clear HRR
      generalize x.free.getD d [] = l0 at *
      subst hyl
      have hw2 : w2.heap[w.heap.size]? = some (.cells #[.slice A0 n4 c0, .slice A1 n4 c1] 62 (0, 0)) := by
        rw [hb2.block _ z_w1_0, hb1.block _ (by simp; omega), Below.heap_alloc _ _ _ (by simp; omega), Below.heap_alloc _ _ _ (by simp)]
        exact heap_alloc_new _ _
      obtain ⟨hW, W0, W1, Wc, Wf⟩ := box_stored (u := .slice A3 n4 c3) (v := .slice (some ⟨b1, off1, none⟩) n4 c4) hw2
      have hk : Keeps (fun b => w1.heap.size ≤ b) w2 ((w2.setCell ⟨w.heap.size, 0, none⟩ (.slice A3 n4 c3)).setCell ⟨w.heap.size, 1, none⟩ (.slice (some ⟨b1, off1, none⟩) n4 c4)) := (by repeat' (first | (with_reducible exact Keeps.refl _ _) | (with_reducible refine Keeps.alloc ?_ _) | (with_reducible refine Keeps.drew ?_) | (with_reducible refine Keeps.drewN ?_ _) | (with_reducible refine Keeps.setCell ?_ ?_ _) | (refine Keeps.call ?_ (by with_reducible assumption)) | (with_reducible refine Keeps.ext ?_ _) | (simp; done) | (simp; omega) | omega))
      have hBW : Below w.heap.size w ((w2.setCell ⟨w.heap.size, 0, none⟩ (.slice A3 n4 c3)).setCell ⟨w.heap.size, 1, none⟩ (.slice (some ⟨b1, off1, none⟩) n4 c4)) := (by repeat' (first | (with_reducible exact Below.refl _ _) | (with_reducible refine Below.alloc ?_ ?_ _) | (with_reducible refine Below.drew ?_) | (with_reducible refine below_drewN ?_ _) | (with_reducible refine Below.setCell ?_ ?_ _) | (refine via ?_ (by with_reducible assumption) ?_) | (refine via ?_ (below_ext _ _) ?_) | go_size))
      have u1 := (Wc b1 (off1 + d) (by have : w1.heap.size ≤ b1 := hS1; omega)).trans hc1
      have u3 := (Wf ⟨b1, off1 + d, none⟩).trans hf1
      obtain ⟨a3, a4⟩ := alloc3 w (.cells #[.slice A0 n4 c0, .slice A1 n4 c1] 62) #[.int .i64 (d : Int), .int .i64 a] #[.slice none 0 0, .slice none 0 0] 104 62
      have s0 := (Wc (w.heap.size + 1) 0 (by omega)).trans ((hc_w2 _ _ z_w1_1).trans ((hc_w1 (w.heap.size + 1) 0 (by simp <;> omega)).trans (cell_of_row _ _ _ _ _ _ a3)))
      have s1 := (Wc (w.heap.size + 1) 1 (by omega)).trans ((hc_w2 _ _ z_w1_1).trans ((hc_w1 (w.heap.size + 1) 1 (by simp <;> omega)).trans (cell_of_row _ _ _ _ _ _ a3)))
      have v0 := (Wc (w.heap.size + 1 + 1) 0 (by omega)).trans ((hc_w2 _ _ z_w1_2).trans ((hc_w1 (w.heap.size + 1 + 1) 0 (by simp)).trans (cell_of_row _ _ _ _ _ _ a4)))
      have v1 := (Wc (w.heap.size + 1 + 1) 1 (by omega)).trans ((hc_w2 _ _ z_w1_2).trans ((hc_w1 (w.heap.size + 1 + 1) 1 (by simp)).trans (cell_of_row _ _ _ _ _ _ a4)))
      have v2 := (Wf ⟨w.heap.size + 1 + 1, 0, none⟩).trans ((hf_w2 _ _ z_w1_2).trans ((hf_w1 (w.heap.size + 1 + 1) 0 (by simp)).trans (frozen_of_row _ _ _ _ _ a4)))
      have v3 := (Wf ⟨w.heap.size + 1 + 1, 1, none⟩).trans ((hf_w2 _ _ z_w1_2).trans ((hf_w1 (w.heap.size + 1 + 1) 1 (by simp)).trans (frozen_of_row _ _ _ _ _ a4)))
      replace s0 := s0.trans (show _ = some (.int .i64 (d : Int)) from rfl)
      replace s1 := s1.trans (show _ = some (.int .i64 a) from rfl)
      replace v0 := v0.trans (show _ = some (.slice none 0 0) from rfl)
      replace v1 := v1.trans (show _ = some (.slice none 0 0) from rfl)
      clear a3 a4
      have hws : w1.heap.size ≤ ((w2.setCell ⟨w.heap.size, 0, none⟩ (.slice A3 n4 c3)).setCell ⟨w.heap.size, 1, none⟩ (.slice (some ⟨b1, off1, none⟩) n4 c4)).heap.size := by simpa using hb2.size
      have hlo : w1.heap.size ≤ lo ∨ Ad = none := by
        rcases Nat.lt_or_ge lo hi with h | h
        · exact .inl (hSd lo (Nat.le_refl _) h)
        · refine .inr ?_
          cases Ad with
          | none => rfl
          | some p => have := hrd p.block rfl; omega
      have hrow : Sl true 3 intE ((w2.setCell ⟨w.heap.size, 0, none⟩ (.slice A3 n4 c3)).setCell ⟨w.heap.size, 1, none⟩ (.slice (some ⟨b1, off1, none⟩) n4 c4)) (fun b => w1.heap.size ≤ b) Ad l.length cd l := by
        refine Sl.keep ?_ hk
        rcases hlo with h | rfl
        · exact (hod.sl (tg := true)).mono (fun b hb hlt => by
            rcases hb with hb | hb
            · exact Nat.le_trans h hb.1
            · exact Nat.le_trans h hb)
        · have h0 : l.length = 0 := by
            rcases Nat.eq_zero_or_pos l.length with h0 | h0
            · exact h0
            · obtain ⟨g, hg, _⟩ := hod.form h0; cases hg
          obtain rfl : l = [] := List.eq_nil_of_length_eq_zero h0
          exact Sl.nil_ hod.le.2
      have hod2 := hod.frame (w' := ((w2.setCell ⟨w.heap.size, 0, none⟩ (.slice A3 n4 c3)).setCell ⟨w.heap.size, 1, none⟩ (.slice (some ⟨b1, off1, none⟩) n4 c4))) (fun b hb hlt => hk.1 b (by
        rcases hb with hb | hb
        · exact hSd b hb.1 hb.2
        · have := hrd b hb.symm; exact hSd b this.1 this.2) hlt) hk.2
      have hs0' := hs0.keep hk
      have hs1' := hs1.keep hk
      have hwz : w2.heap.size = ((w2.setCell ⟨w.heap.size, 0, none⟩ (.slice A3 n4 c3)).setCell ⟨w.heap.size, 1, none⟩ (.slice (some ⟨b1, off1, none⟩) n4 c4)).heap.size := by simp
      have p0 := (cell_of_row w2 w.heap.size 0 _ _ _ hw2).trans (show _ = some (.slice A0 n4 c0) from rfl)
      have p1 := (cell_of_row w2 w.heap.size 1 _ _ _ hw2).trans (show _ = some (.slice A1 n4 c1) from rfl)
      have p2 := frozen_of_row w2 w.heap.size 0 _ _ hw2
      have p3 := frozen_of_row w2 w.heap.size 1 _ _ hw2
      clear hc_w1 hc_w2 hf_w1 hf_w2 Wc Wf hW hs0 hs1 hod hk hw2
      go_wp2
      clear p0 p1 p2 p3
      generalize ((w2.setCell ⟨w.heap.size, 0, none⟩ (.slice A3 n4 c3)).setCell ⟨w.heap.size, 1, none⟩ (.slice (some ⟨b1, off1, none⟩) n4 c4)) = W at *
      rw [hwz] at hbl1 z_w2_0 z_w2_1 z_w2_2 hrows hhi
      clear hwz
      have hext := cell_ext W
      have HC : Hid (∀ X, Calls Try.prog 123 #[.slice Ad l.length cd, .int .i64 a] (W.ext X) (RetV (.tuple #[.int .i64 (l.countP (· < a) : Nat), .bool (l.contains a)]) (W.ext X))) := Lib.hid (fun X =>
        (BinarySearch_c (hrow.all (below_ext W X)) (by omega) ((rising_lt HRI.out).imp (fun h => by omega))).mono (by
          rintro e w5 ⟨rfl, q, rfl⟩
          exact ⟨rfl, below_drewN (Below.refl _ _) _⟩))
      generalize hpos : l.countP (· < a) = pos at *
      generalize hthe : l.contains a = the at *
      have HPOS := Lib.hid hpos; clear hpos
      have HTHE := Lib.hid hthe; clear hthe
      refine region_ext (by kernel_rfl) (by kernel_rfl) ?_
      repeat (go_big_quiet_step ((go_at_call 123; exact RetV.ext (HC.out _))))
      refine wpQuiet_nil ?_
      rintro _ ⟨X, rfl⟩
      have hbx := below_ext W X
      have W0' := (hext X w.heap.size 0 z_w2_0).trans W0
      have W1' := (hext X w.heap.size 1 z_w2_0).trans W1
      have u1' := (hext X b1 (off1 + d) hbl1).trans u1
      have u3' := (hbx.frozen (p := ⟨b1, off1 + d, none⟩) hbl1).trans u3
      have s0' := (hext X (w.heap.size + 1) 0 z_w2_1).trans s0
      have s1' := (hext X (w.heap.size + 1) 1 z_w2_1).trans s1
      have v0' := (hext X (w.heap.size + 1 + 1) 0 z_w2_2).trans v0
      have v1' := (hext X (w.heap.size + 1 + 1) 1 z_w2_2).trans v1
      have v2' := (hbx.frozen (p := ⟨w.heap.size + 1 + 1, 0, none⟩) z_w2_2).trans v2
      have v3' := (hbx.frozen (p := ⟨w.heap.size + 1 + 1, 1, none⟩) z_w2_2).trans v3
      have hod5 := hod2.all hbx
      have hs05 := hs0'.all hbx
      have hs15 := hs1'.all hbx
      have hB5 := via hBW hbx (Nat.le_refl _)
      have hz5 := hbx.size
      have hwz5 : w1.heap.size ≤ (W.ext X).heap.size := Nat.le_trans hws hz5
      clear W0 W1 u1 u3 s0 s1 v0 v1 v2 v3 hod2 hs0' hs1' hBW hext HC hrow hbx
      generalize W.ext X = W5 at *
      have HB5 := Lib.hid hB5; clear hB5
      cases the with
      | true =>
        have HRX : Hid (R = (⟨[], []⟩, 4)) := Lib.hid (HTT.out rfl)
        go_wp2
        refine bodyPost_ret (v := .tuple #[.agg #[.slice none 0 0, .slice none 0 0], .int .i64 4]) (by simp [results, Try.results78, go_sem, *]; done) rfl ?_
        have := HB5.out
        exact RetSE.bad HRX.out (by repeat' (first | (with_reducible exact Below.refl _ _) | (with_reducible refine Below.alloc ?_ ?_ _) | (with_reducible refine Below.drew ?_) | (with_reducible refine below_drewN ?_ _) | (with_reducible refine Below.setCell ?_ ?_ _) | (refine via ?_ (by with_reducible assumption) ?_) | (refine via ?_ (below_ext _ _) ?_) | go_size))
      | false =>
        have HRX : Hid (R = (⟨x.live, x.free.set d (insAt pos a l)⟩, 0)) := Lib.hid (HRR2.out (by simp))
        have hbt := Sl.tagAt hs15 (by omega)
        have hne : ∀ b, b < w1.heap.size ∨ b = b1 → some b ≠ ablk Ad := by
          intro b hb e
          cases Ad with
          | none => cases e
          | some p =>
            have e2 : b = p.block := by injection e
            obtain ⟨cur, hg⟩ := hod5.block_some rfl
            rw [e2] at hb
            rcases hb with hb | hb
            · have h1 : lo ≤ p.block := (hrd p.block rfl).1
              rcases hlo with h | h
              · exact absurd (Nat.le_trans h h1) (by omega)
              · cases h
            · obtain ⟨q, hq⟩ := hbt
              rw [← hb, shape_of_cells hg] at hq
              injection hq with hq; injection hq with hq _
              exact absurd hq (by decide)
        have low6 : ∀ w6, (W5.drew.alloc (.cells #[.int .i64 a] 3)).grownBy w6 (ablk Ad) → ∀ b, b < W5.heap.size → some b ≠ ablk Ad → w6.heap[b]? = W5.heap[b]? := fun w6 hg b hb hn => (hg.block b (by simp; omega) hn).trans (Below.heap_alloc W5.drew _ b hb)
        have hbz : b1 < W5.heap.size := by omega
        have fin : ∀ w6 A6 c6, Sl true 3 intE w6 (fun b => (lo ≤ b ∧ b < hi) ∨ (W5.drew.alloc (.cells #[.int .i64 a] 3)).heap.size ≤ b) A6 (l.length + 1) c6 (insAt pos a l) → (W5.drew.alloc (.cells #[.int .i64 a] 3)).grownBy w6 (ablk Ad) →
            RetSE w R (.returned (.tuple #[.agg #[.slice A3 n4 c3, .slice (some ⟨b1, off1, none⟩) n4 c4], .int .i64 0]))
              (((w6.setCell ⟨b1, off1 + d, none⟩ (.slice A6 (l.length + 1) c6)).setCell ⟨w.heap.size + 1 + 1, 0, none⟩ (.slice A3 n4 c3)).setCell ⟨w.heap.size + 1 + 1, 1, none⟩ (.slice (some ⟨b1, off1, none⟩) n4 c4)) := by
          intro w6 A6 c6 hsl hg
          have hS1' : w1.heap.size ≤ b1 := hS1
          have hs6 : W5.heap.size + 1 ≤ w6.heap.size := by simpa using hg.size
          have hl6 := low6 w6 hg
          have hb6 := hl6 b1 hbz (hne b1 (.inr rfl))
          have hk1 : Keeps (fun b => (w1.heap.size ≤ b ∧ b ≠ b1)) w6 (w6.setCell ⟨b1, off1 + d, none⟩ (.slice A6 (l.length + 1) c6)) := (Keeps.refl _ _).setCell (fun h => h.2 rfl) _
          have hlive := (hs05.avoid (T := 3) (boolE_avoids _) (by decide) (w' := w6) (fun b hb hlt hnt => by
            refine hl6 b hlt (fun e => ?_)
            cases Ad with
            | none => cases e
            | some p =>
              injection e with e; subst e
              obtain ⟨cur, hg⟩ := hod5.block_some rfl
              exact hnt _ (shape_of_cells hg)) (by omega))
          obtain ⟨q, hq⟩ := hbt
          have hlive2 := ((Turns.refl (fun b => w1.heap.size ≤ b) _ w6).setCell (p := ⟨b1, off1 + d, none⟩) hS1 (by rw [shape_of_block hb6]; exact hq) (.slice A6 (l.length + 1) c6)).sl (boolE_avoids _) (by decide) hlive
          have hnsl : Sl true 3 intE (w6.setCell ⟨b1, off1 + d, none⟩ (.slice A6 (l.length + 1) c6)) (fun b => w1.heap.size ≤ b) A6 (l.length + 1) c6 (insAt pos a l) := by
            have ht := ((Turns.refl (fun b => w1.heap.size ≤ b) _ w6).setCell (p := ⟨b1, off1 + d, none⟩) hS1 (by rw [shape_of_block hb6]; exact hq) (.slice A6 (l.length + 1) c6)).sl (intE_avoids _) (by decide) hsl
            refine ht.mono (fun b hb _ => ?_)
            rcases hb with hb | hb
            · exact hSd b hb.1 hb.2
            · have : W5.heap.size + 1 ≤ b := by simpa using hb
              show w1.heap.size ≤ b
              omega
          have hfree := hs15.redo (F := slE true 3 intE) (S' := fun b => w1.heap.size ≤ b) (zs := x.free.set d (insAt pos a l)) (nv := .slice A6 (l.length + 1) c6) rowE_sz rfl hdn hb6 (by omega) hS1 (by rw [List.length_set]; exact HL1.out) (z := insAt pos a l) (by rw [List.getElem?_set_self hdl]) ⟨_, _, _, rfl, hnsl⟩ (by
            intro k y z v hkd hy hz hR
            rw [List.getElem?_set_ne (Ne.symm hkd)] at hz
            obtain ⟨A', c', hv', ho', hr', hs', hb'⟩ := hR
            injection hv' with hv'; subst hv'
            have hzl : y.1 = z := by
              have h2 := hrows.lists
              rw [← h2, List.getElem?_map, hy] at hz
              injection hz
            subst hzl
            refine ⟨_, _, _, rfl, ?_⟩
            rcases Nat.eq_zero_or_pos y.1.length with h0 | h0
            · have e1 : y.1 = [] := List.eq_nil_of_length_eq_zero h0
              rw [e1]
              exact Sl.nil_ ho'.le.2
            · obtain ⟨g, hg', _⟩ := ho'.form h0
              subst hg'
              obtain ⟨cur, hgc⟩ := ho'.block_some rfl
              have hrg := hr' g rfl
              have hap : some g ≠ ablk Ad := by
                intro e
                have h1 := hrd g e.symm
                have hp := List.pairwise_iff_getElem.1 hrows.apart
                obtain ⟨hk1, ek⟩ := List.getElem?_eq_some_iff.1 hy
                obtain ⟨hd1, ed⟩ := List.getElem?_eq_some_iff.1 hyd
                rcases Nat.lt_or_gt_of_ne hkd with h | h
                · have := hp k d hk1 hd1 h
                  rw [ek, ed] at this
                  simp only at this
                  omega
                · have := hp d k hd1 hk1 h
                  rw [ek, ed] at this
                  simp only at this
                  omega
              have hgb : g ≠ b1 := by
                intro e
                subst e
                rw [shape_of_cells hgc] at hq
                injection hq with hq; injection hq with hq _
                exact absurd hq (by decide)
              have hgl : g < W5.heap.size := by have := hs'; omega
              have hfr := ((ho'.flatS (S' := fun _ => False)).frame (w' := w6.setCell ⟨b1, off1 + d, none⟩ (.slice A6 (l.length + 1) c6)) (fun b hb _ => by
                have : b = g := hb.elim (fun h => h.elim) (fun h => by injection h)
                subst this
                exact (Below.heap_setCell w6 _ _ _ hgb).trans (hl6 _ hgl hap)) (by simp; omega))
              have hlo' : w1.heap.size ≤ y.2.1 := hb' _ (Nat.le_refl _) (by omega)
              exact ((hfr.flatS (S' := fun _ => False)).sl (tg := true)).mono (fun b hb _ => hb.elim (fun h => h.elim) (fun h => Nat.le_trans hlo' h)))
          have hBw6 : Below w.heap.size w w6 := ((HB5.out.drew).alloc (by show w.heap.size ≤ W5.heap.size; omega) _).grown hg (by have := HB5.out.size; simp; omega) (fun r hr => by
            have h1 : lo ≤ r := (hrd r hr).1
            rcases hlo with h | h
            · omega
            · rw [h] at hr; cases hr)
          have hB2 := hBw6.setCell (show w.heap.size ≤ (⟨b1, off1 + d, none⟩ : Addr).block by show w.heap.size ≤ b1; omega) (.slice A6 (l.length + 1) c6)
          have hkk : Keeps (fun b => w1.heap.size ≤ b) (w6.setCell ⟨b1, off1 + d, none⟩ (.slice A6 (l.length + 1) c6)) (((w6.setCell ⟨b1, off1 + d, none⟩ (.slice A6 (l.length + 1) c6)).setCell ⟨w.heap.size + 1 + 1, 0, none⟩ (.slice A3 n4 c3)).setCell ⟨w.heap.size + 1 + 1, 1, none⟩ (.slice (some ⟨b1, off1, none⟩) n4 c4)) := (by repeat' (first | (with_reducible exact Keeps.refl _ _) | (with_reducible refine Keeps.alloc ?_ _) | (with_reducible refine Keeps.drew ?_) | (with_reducible refine Keeps.drewN ?_ _) | (with_reducible refine Keeps.setCell ?_ ?_ _) | (refine Keeps.call ?_ (by with_reducible assumption)) | (with_reducible refine Keeps.ext ?_ _) | (simp; done) | (simp; omega) | omega))
          rw [HRX.out]
          exact ⟨_, _, _, _, _, _, rfl, (hlive2.keep hkk).mono (fun b hb _ => by have : w1.heap.size ≤ b := hb; omega), (hfree.keep hkk).mono (fun b hb _ => by have : w1.heap.size ≤ b := hb; omega), (by repeat' (first | (with_reducible exact Below.refl _ _) | (with_reducible refine Below.alloc ?_ ?_ _) | (with_reducible refine Below.drew ?_) | (with_reducible refine below_drewN ?_ _) | (with_reducible refine Below.setCell ?_ ?_ _) | (refine via ?_ (by with_reducible assumption) ?_) | (refine via ?_ (below_ext _ _) ?_) | go_size))⟩
        have keep : ∀ w6, (W5.drew.alloc (.cells #[.int .i64 a] 3)).grownBy w6 (ablk Ad) → w6.cell? ⟨w.heap.size, 0, none⟩ = some (.slice A3 n4 c3) ∧ w6.cell? ⟨w.heap.size, 1, none⟩ = some (.slice (some ⟨b1, off1, none⟩) n4 c4) ∧ w6.cell? ⟨b1, off1 + d, none⟩ = some (.slice Ad l.length cd) ∧ w6.frozen? ⟨b1, off1 + d, none⟩ = false ∧
            w6.cell? ⟨w.heap.size + 1, 0, none⟩ = some (.int .i64 (d : Int)) ∧ w6.cell? ⟨w.heap.size + 1 + 1, 0, none⟩ = some (.slice none 0 0) ∧ w6.cell? ⟨w.heap.size + 1 + 1, 1, none⟩ = some (.slice none 0 0) ∧ w6.frozen? ⟨w.heap.size + 1 + 1, 0, none⟩ = false ∧ w6.frozen? ⟨w.heap.size + 1 + 1, 1, none⟩ = false ∧ w6.cell? ⟨w.heap.size + 1, 1, none⟩ = some (.int .i64 a) := by
          intro w6 hg
          have hl6 := low6 w6 hg
          have g0 := hl6 w.heap.size (by omega) (hne _ (.inl z_w1_0))
          have g1 := hl6 (w.heap.size + 1) (by omega) (hne _ (.inl z_w1_1))
          have g2 := hl6 (w.heap.size + 1 + 1) (by omega) (hne _ (.inl z_w1_2))
          have g3 := hl6 b1 hbz (hne _ (.inr rfl))
          exact ⟨(World.cell?_of_block (a := ⟨w.heap.size, 0, none⟩) g0).trans W0', (World.cell?_of_block (a := ⟨w.heap.size, 1, none⟩) g0).trans W1', (World.cell?_of_block (a := ⟨b1, off1 + d, none⟩) g3).trans u1', (World.frozen?_of_block (a := ⟨b1, off1 + d, none⟩) g3).trans u3',
            (World.cell?_of_block (a := ⟨w.heap.size + 1, 0, none⟩) g1).trans s0', (World.cell?_of_block (a := ⟨w.heap.size + 1 + 1, 0, none⟩) g2).trans v0', (World.cell?_of_block (a := ⟨w.heap.size + 1 + 1, 1, none⟩) g2).trans v1', (World.frozen?_of_block (a := ⟨w.heap.size + 1 + 1, 0, none⟩) g2).trans v2', (World.frozen?_of_block (a := ⟨w.heap.size + 1 + 1, 1, none⟩) g2).trans v3', (World.cell?_of_block (a := ⟨w.heap.size + 1, 1, none⟩) g1).trans s1'⟩
        have KEEP := Lib.hid keep; clear keep
        have FIN := Lib.hid fin; clear fin
        have hins := Insert_c (w := W5.drew.alloc (.cells #[.int .i64 a] 3)) (vb := W5.heap.size) (i := pos) (x := a) ((hod5.frame (Agree.drew _ _) (Nat.le_refl _)).frame (Agree.alloc _ _ _) (by simp)) (fun r hr => hrd r hr) (by rw [← HPOS.out]; exact List.countP_le_length) (by omega) hIa (heap_alloc_new W5.drew _) (fun e => by have := hrd _ e.symm; omega)
        have HINS := Lib.hid hins; clear hins
        have z50 : w.heap.size < W5.heap.size := by omega
        have z51 : w.heap.size + 1 < W5.heap.size := by omega
        have z52 : w.heap.size + 1 + 1 < W5.heap.size := by omega
        have zb1 : b1 < W5.heap.size := by omega
        have hal : ∀ b o, b < W5.heap.size → (W5.drew.alloc (.cells #[.int .i64 a] 3)).cell? ⟨b, o, none⟩ = W5.cell? ⟨b, o, none⟩ ∧ (W5.drew.alloc (.cells #[.int .i64 a] 3)).frozen? ⟨b, o, none⟩ = W5.frozen? ⟨b, o, none⟩ := fun b o h => ⟨World.cell?_of_block (a := ⟨b, o, none⟩) (Below.heap_alloc W5.drew _ b h), World.frozen?_of_block (a := ⟨b, o, none⟩) (Below.heap_alloc W5.drew _ b h)⟩
        clear low6 hne hbt hod5 hs05 hs15 HB5 hrows hrd
        go_wp2_with fail
        have cells : ∀ us w6, us.length ≤ 2 → WdGive W5 Ad l a b1 (off1 + d) lo hi pos us w6 → w6.cell? ⟨w.heap.size, 1, none⟩ = some (.slice (some ⟨b1, off1, none⟩) n4 c4) ∧ w6.cell? ⟨b1, off1 + d, none⟩ = some (.slice Ad l.length cd) ∧
            w6.cell? ⟨w.heap.size + 1, 0, none⟩ = some (.int .i64 (d : Int)) ∧ w6.cell? ⟨w.heap.size + 1, 1, none⟩ = some (.int .i64 a) ∧ w6.frozen? ⟨b1, off1 + d, none⟩ = false := by
          intro us w6 hl hW
          match us, hl, hW with
          | [], _, hW => obtain rfl : w6 = W5.drew := hW; exact ⟨W1', u1', s0', s1', u3'⟩
          | [u], _, ⟨_, hW⟩ => subst hW; exact ⟨(hal _ _ z50).1.trans W1', (hal _ _ zb1).1.trans u1', (hal _ _ z51).1.trans s0', (hal _ _ z51).1.trans s1', (hal _ _ zb1).2.trans u3'⟩
          | [u, v], _, ⟨A6, c6, hu, _, hg⟩ =>
            obtain ⟨t0, t1, t2, t3, t4, t5, t6, t7, t8, t9⟩ := KEEP.out _ hg
            exact ⟨t1, t2, t4, t9, t3⟩
        have CELLS := Lib.hid cells; clear cells
        refine region_row (by kernel_rfl) (by kernel_rfl) 68 rfl [51, 52, 53, 54, 55, 56, 57, 58, 59, 60, 61, 62, 63, 64, 65, 66] [13, 14, 16] [(64, 0), (65, 1)]
          [(51, .pointer (some ⟨w.heap.size, 1, none⟩)), (52, .slice (some ⟨b1, off1, none⟩) n4 c4), (53, .pointer (some ⟨w.heap.size + 1, 0, none⟩)), (54, .int .i64 (d : Int)), (55, .pointer (some ⟨w.heap.size, 1, none⟩)), (56, .slice (some ⟨b1, off1, none⟩) n4 c4),
            (57, .pointer (some ⟨w.heap.size + 1, 0, none⟩)), (58, .int .i64 (d : Int)), (59, .pointer (some ⟨b1, off1 + d, none⟩)), (60, .slice Ad l.length cd), (61, .int .i64 (pos : Int)), (62, .pointer (some ⟨w.heap.size + 1, 1, none⟩)), (63, .int .i64 a), (66, .pointer (some ⟨b1, off1 + d, none⟩))]
          (fun _ => 2) [[], [51], [], [53], [], [55], [], [57], [56, 58], [59], [], [], [62], [63], [60, 61, 64], [52, 54], [66, 65]] (WdGive W5 Ad l a b1 (off1 + d) lo hi pos) (by kernel_rfl) rfl ⟨?_, ?_, ?_, ?_, ?_, ?_, ?_, ?_, ?_, ?_, ?_, ?_, ?_, ?_, ?_, ?_, ?_, trivial⟩ ?_
        · (refine OpOk.rd rfl _ rfl (fun ρ us w6 ho ht hc hl hW => ?_); have e2 := (ho 2 rfl).trans (show _ = (.pointer (some ⟨w.heap.size, 0, none⟩) : Value) from rfl); simp only [execOp, e2]; go_simp; try rfl)
        · (refine OpOk.rd rfl _ rfl (fun ρ us w6 ho ht hc hl hW => ?_); have e51 := (ht 51 (by decide)).trans (show _ = (.pointer (some ⟨w.heap.size, 1, none⟩) : Value) from rfl); obtain ⟨t1, t2, t4, t9, t3⟩ := CELLS.out us w6 hl hW; simp only [execOp, e51]; go_simp; try rfl)
        · (refine OpOk.rd rfl _ rfl (fun ρ us w6 ho ht hc hl hW => ?_); have e3 := (ho 3 rfl).trans (show _ = (.pointer (some ⟨w.heap.size + 1, 0, none⟩) : Value) from rfl); simp only [execOp, e3]; go_simp; try rfl)
        · (refine OpOk.rd rfl _ rfl (fun ρ us w6 ho ht hc hl hW => ?_); have e53 := (ht 53 (by decide)).trans (show _ = (.pointer (some ⟨w.heap.size + 1, 0, none⟩) : Value) from rfl); obtain ⟨t1, t2, t4, t9, t3⟩ := CELLS.out us w6 hl hW; simp only [execOp, e53]; go_simp; try rfl)
        · (refine OpOk.rd rfl _ rfl (fun ρ us w6 ho ht hc hl hW => ?_); have e2 := (ho 2 rfl).trans (show _ = (.pointer (some ⟨w.heap.size, 0, none⟩) : Value) from rfl); simp only [execOp, e2]; go_simp; try rfl)
        · (refine OpOk.rd rfl _ rfl (fun ρ us w6 ho ht hc hl hW => ?_); have e55 := (ht 55 (by decide)).trans (show _ = (.pointer (some ⟨w.heap.size, 1, none⟩) : Value) from rfl); obtain ⟨t1, t2, t4, t9, t3⟩ := CELLS.out us w6 hl hW; simp only [execOp, e55]; go_simp; try rfl)
        · (refine OpOk.rd rfl _ rfl (fun ρ us w6 ho ht hc hl hW => ?_); have e3 := (ho 3 rfl).trans (show _ = (.pointer (some ⟨w.heap.size + 1, 0, none⟩) : Value) from rfl); simp only [execOp, e3]; go_simp; try rfl)
        · (refine OpOk.rd rfl _ rfl (fun ρ us w6 ho ht hc hl hW => ?_); have e57 := (ht 57 (by decide)).trans (show _ = (.pointer (some ⟨w.heap.size + 1, 0, none⟩) : Value) from rfl); obtain ⟨t1, t2, t4, t9, t3⟩ := CELLS.out us w6 hl hW; simp only [execOp, e57]; go_simp; try rfl)
        · (refine OpOk.rd rfl _ rfl (fun ρ us w6 ho ht hc hl hW => ?_); have e56 := (ht 56 (by decide)).trans (show _ = (.slice (some ⟨b1, off1, none⟩) n4 c4 : Value) from rfl); have e58 := (ht 58 (by decide)).trans (show _ = (.int .i64 (d : Int) : Value) from rfl); simp only [execOp, e56, e58]; go_simp; try rfl)
        · (refine OpOk.rd rfl _ rfl (fun ρ us w6 ho ht hc hl hW => ?_); have e59 := (ht 59 (by decide)).trans (show _ = (.pointer (some ⟨b1, off1 + d, none⟩) : Value) from rfl); obtain ⟨t1, t2, t4, t9, t3⟩ := CELLS.out us w6 hl hW; simp only [execOp, e59]; go_simp; try rfl)
        · (refine OpOk.rd rfl _ rfl (fun ρ us w6 ho ht hc hl hW => ?_); have e6 := (ho 6 rfl).trans (show _ = (.int .i64 (pos : Int) : Value) from rfl); simp only [execOp, e6]; go_simp; try rfl)
        · (refine OpOk.rd rfl _ rfl (fun ρ us w6 ho ht hc hl hW => ?_); have e3 := (ho 3 rfl).trans (show _ = (.pointer (some ⟨w.heap.size + 1, 0, none⟩) : Value) from rfl); simp only [execOp, e3]; go_simp; try rfl)
        · (refine OpOk.rd rfl _ rfl (fun ρ us w6 ho ht hc hl hW => ?_); have e62 := (ht 62 (by decide)).trans (show _ = (.pointer (some ⟨w.heap.size + 1, 1, none⟩) : Value) from rfl); obtain ⟨t1, t2, t4, t9, t3⟩ := CELLS.out us w6 hl hW; simp only [execOp, e62]; go_simp; try rfl)
        · refine OpOk.wr (k := 0) rfl (fun A us w6 ho ht hl hW K hK => ?_)
          obtain rfl : us = [] := List.eq_nil_of_length_eq_zero hl
          obtain rfl : w6 = W5.drew := hW
          have e63 := (ht 63 (by decide)).trans (show _ = (.int .i64 a : Value) from rfl)
          rw [if_pos (by simp [Region.wanted])]
          unfold Oper.wp
          generalize A.eval = ρ at *
          simp only [execOp, List.map_toArray, List.map_cons, List.map_nil, e63]
          go_simp
          exact hK _ _ ⟨rfl, rfl⟩
        · refine OpOk.wr (k := 1) rfl (fun A us w6 ho ht hl hW K hK => ?_)
          match us, hl, hW with
          | [u], _, hW =>
          obtain ⟨rfl, rfl⟩ := hW
          have e60 := (ht 60 (by decide)).trans (show _ = (.slice Ad l.length cd : Value) from rfl)
          have e61 := (ht 61 (by decide)).trans (show _ = (.int .i64 (pos : Int) : Value) from rfl)
          have e64 := (ht 64 (by decide)).trans (show _ = (.slice (some ⟨W5.heap.size, 0, none⟩) 1 1 : Value) from rfl)
          refine step_call rfl 124 #[.tmp 60, .tmp 61, .tmp 64] #[52, 3, 52] rfl Try.func124 (by kernel_rfl) (by kernel_rfl) #[.slice Ad l.length cd, .int .i64 (pos : Int), .slice (some ⟨W5.heap.size, 0, none⟩) 1 1] (by simp [e60, e61, e64]) (HINS.out) ?_
          rintro e w7 ⟨A6, c6, rfl, hsl6, hg6⟩
          exact ⟨_, rfl, hK _ _ ⟨A6, c6, rfl, hsl6, hg6⟩⟩
        · (refine OpOk.rd rfl _ rfl (fun ρ us w6 ho ht hc hl hW => ?_); have e52 := (ht 52 (by decide)).trans (show _ = (.slice (some ⟨b1, off1, none⟩) n4 c4 : Value) from rfl); have e54 := (ht 54 (by decide)).trans (show _ = (.int .i64 (d : Int) : Value) from rfl); simp only [execOp, e52, e54]; go_simp; try rfl)
        · refine OpOk.wr (k := 2) rfl (fun A us w6 ho ht hl hW K hK => ?_)
          match us, hl, hW with
          | [u, v], _, hW =>
          obtain ⟨A6, c6, rfl, hsl, hg⟩ := hW
          have e66 := (ht 66 (by decide)).trans (show _ = (.pointer (some ⟨b1, off1 + d, none⟩) : Value) from rfl)
          have e65 := (ht 65 (by decide)).trans (show _ = (.slice A6 (l.length + 1) c6 : Value) from rfl)
          obtain ⟨t0, t1, t2, t3, t4, t5, t6, t7, t8, t9⟩ := KEEP.out _ hg
          rw [if_pos (by simp [Region.wanted])]
          unfold Oper.wp
          generalize A.eval = ρ at *
          simp only [execOp, e66, e65]
          go_simp
          exact hK undef _ ⟨w6, A6, c6, hsl, hg, rfl⟩
        · intro us w7 hl hW
          match us, hl, hW with
          | [u, v, x7], _, hW =>
          obtain ⟨w6, A6, c6, hsl6, hg6, rfl⟩ := hW
          obtain ⟨t0, t1, t2, t3, t4, t5, t6, t7, t8, t9⟩ := KEEP.out _ hg6
          have HG6 := Lib.hid hg6; clear hg6
          have HS6 := Lib.hid hsl6; clear hsl6
          simp only [putAll, List.map_cons, List.map_nil, List.foldl_cons, List.foldl_nil, Act.put, List.setIfInBounds_toArray, List.set_cons_succ, List.set_cons_zero]
          generalize slotVal _ _ [u, v, x7] = sv
          go_wp2
          refine bodyPost_ret (v := .tuple #[.agg #[.slice A3 n4 c3, .slice (some ⟨b1, off1, none⟩) n4 c4], .int .i64 0]) (by simp [results, Try.results78, go_sem, *]; done) rfl ?_
          exact FIN.out _ _ _ HS6.out HG6.out
    · have HRR : Hid (R = (⟨[], []⟩, 1)) := Lib.hid (HBAD.out (.inr hn))
      rcases (by omega : d < 0 ∨ (0 ≤ d ∧ (n0 : Int) ≤ d) ∨ (0 ≤ d ∧ d < n0 ∧ a < 0) ∨ (0 ≤ d ∧ d < n0 ∧ 0 ≤ a ∧ 64 ≤ a)) with h | ⟨h, h'⟩ | ⟨h, h', h''⟩ | ⟨h, h', h'', h'''⟩ <;>
      · go_wp2
        refine bodyPost_ret (v := .tuple #[.agg #[.slice none 0 0, .slice none 0 0], .int .i64 1]) (by simp [results, Try.results78, go_sem, *]; done) rfl ?_
        exact RetSE.bad HRR.out (by repeat' (first | (with_reducible exact Below.refl _ _) | (with_reducible refine Below.alloc ?_ ?_ _) | (with_reducible refine Below.drew ?_) | (with_reducible refine below_drewN ?_ _) | (with_reducible refine Below.setCell ?_ ?_ _) | (refine via ?_ (by with_reducible assumption) ?_) | (refine via ?_ (below_ext _ _) ?_) | go_size))
end Go.Proofs.Ytfccghfcilccfaa
