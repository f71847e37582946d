/- silolaw15.good: as many truths as a shape has pieces. -/
import Derived.Test.YtfccghfcilccfaaE6
import Derived.Test.YtfccghfcilccfaaE2
import Derived.Deep.Cut
namespace Go.Proofs.Ytfccghfcilccfaa
open Go.RowKit Go.Silo

def goodAt (g : List Bool) (i : Nat) : Bool := g.length == 0 || g.getD (i % g.length) false
def goodL (g : List Bool) (n : Nat) : List Bool := (List.range n).map (goodAt g)
theorem goodL_succ (g : List Bool) (n : Nat) : goodL g (n + 1) = goodL g n ++ [goodAt g n] := by unfold goodL; rw [List.range_succ, List.map_append]; rfl
theorem goodL_len (g : List Bool) (n : Nat) : (goodL g n).length = n := by unfold goodL; rw [List.length_map, List.length_range]

theorem own_down {α : Type} {T : TypeId} {E : Enc α} {w : World} {base base' : Nat} {S : Nat → Prop} {A : Option Addr} {n c : Nat} {xs : List α} (h : Own T E w base' S A n c xs) (hb : base ≤ base') : Own T E w base S A n c xs := by
  obtain ⟨cells, ho, hl, hx⟩ := h
  refine ⟨cells, ⟨ho.1, ?_⟩, hl, hx⟩
  rcases ho.2 with h | ⟨g, cap, cur, hv, hg, r⟩
  · exact .inl h
  · exact .inr ⟨g, cap, cur, hv, Nat.le_trans hb hg, r⟩
/-- The worlds between the steps of 'l = append(l, ..)'. -/
inductive WdG (V : World) (base : Nat) (A : Option Addr) (k c : Nat) (g : List Bool) (v : Bool) : List (Nat × Value) → World → Prop
  | n0 {W : World} : Below V.heap.size V W → WdG V base A k c g v [] W
  | nb {W : World} {b : Nat} : Below V.heap.size V W → W.heap[b]? = some (.cells #[.bool v] 4 (0, 0)) → WdG V base A k c g v [(16, .slice (some ⟨b, 0, none⟩) 1 1)] W
  | done {W W' : World} {x : Value} {A' : Option Addr} {c' : Nat} : Below V.heap.size V W → W.grownBy W' (ablk A) → Own 4 boolE W' base (fun _ => False) A' (k + 1) c' (goodL g k ++ [v]) → WdG V base A k c g v [(16, x), (17, .slice A' (k + 1) c')] W'
theorem WdG.early {V W : World} {base : Nat} {A : Option Addr} {k c : Nat} {g : List Bool} {v : Bool} {us : List (Nat × Value)} (h : WdG V base A k c g v us W) (hn : 17 ∉ us.map Prod.fst) : Below V.heap.size V W := by
  cases h with
  | n0 h => exact h
  | nb h _ => exact h
  | done _ _ _ => exact absurd (by simp) hn

theorem WdG.keep {V W : World} {base : Nat} {A : Option Addr} {k c : Nat} {g : List Bool} {v : Bool} {us : List (Nat × Value)} (h : WdG V base A k c g v us W) {b : Nat} (hb : b < V.heap.size) (hne : some b ≠ ablk A) : W.heap[b]? = V.heap[b]? := by
  cases h with
  | n0 h => exact h.block b hb
  | nb h _ => exact h.block b hb
  | done h hg _ => exact (hg.block b (Nat.lt_of_lt_of_le hb h.size) hne).trans (h.block b hb)

set_option maxRecDepth 100000 in
set_option maxHeartbeats 8000000 in
theorem good_c {S : Nat → Prop} {w : World} {p : AskP} {s : Shape} {As Ax A0 A1 Ag An : Option Addr} {ns cs nx cx n0 c0 n1 c1 ng cg nn cn n : Nat} (hn : (n : Int) = s.K + s.M) (hn1 : n ≤ 14) (_ : 0 ≤ s.K ∧ 0 ≤ s.M) (hng : ng ≤ 1000000) (h : AskR w S p As ns cs Ax nx cx A0 n0 c0 A1 n1 c1 Ag ng cg An nn cn) :
    Calls Try.prog 46 #[.agg #[.slice As ns cs, .slice Ax nx cx, .slice A0 n0 c0, .slice A1 n1 c1, .slice Ag ng cg, .slice An nn cn], .agg #[.int .i64 s.K, .int .i64 s.M, .int .i64 s.size]] w (RetOwn 4 boolE w (goodL p.g n)) := by
  obtain ⟨i0, hi0, hz0, hz1, hz2⟩ := info_parts Try.info_Bool
  have HLG := Lib.hid h.g.len
  have HG := Lib.hid (fun W (hW : Below w.heap.size w W) => h.g.lt_block.all hW); clear h
  have hrow0 : ((w.alloc (.cells #[.slice As ns cs, .slice Ax nx cx, .slice A0 n0 c0, .slice A1 n1 c1, .slice Ag ng cg, .slice An nn cn] 76)).alloc (.cells #[.int .i64 s.K, .int .i64 s.M, .int .i64 s.size] 23)).heap[w.heap.size]? = some (.cells #[.slice As ns cs, .slice Ax nx cx, .slice A0 n0 c0, .slice A1 n1 c1, .slice Ag ng cg, .slice An nn cn] 76 (0, 0)) := by rw [Below.heap_alloc _ _ _ (by simp)]; exact heap_alloc_new _ _
  have hrow1 : ((w.alloc (.cells #[.slice As ns cs, .slice Ax nx cx, .slice A0 n0 c0, .slice A1 n1 c1, .slice Ag ng cg, .slice An nn cn] 76)).alloc (.cells #[.int .i64 s.K, .int .i64 s.M, .int .i64 s.size] 23)).heap[w.heap.size + 1]? = some (.cells #[.int .i64 s.K, .int .i64 s.M, .int .i64 s.size] 23 (0, 0)) := by
    have := heap_alloc_new (w.alloc (.cells #[.slice As ns cs, .slice Ax nx cx, .slice A0 n0 c0, .slice A1 n1 c1, .slice Ag ng cg, .slice An nn cn] 76)) (.cells #[.int .i64 s.K, .int .i64 s.M, .int .i64 s.size] 23)
    rw [World.size_alloc] at this; exact this
  have hal : Below w.heap.size w ((w.alloc (.cells #[.slice As ns cs, .slice Ax nx cx, .slice A0 n0 c0, .slice A1 n1 c1, .slice Ag ng cg, .slice An nn cn] 76)).alloc (.cells #[.int .i64 s.K, .int .i64 s.M, .int .i64 s.size] 23)) := (by repeat' (first | (with_reducible exact Below.refl _ _) | (with_reducible refine Below.alloc ?_ ?_ _) | (with_reducible refine Below.drew ?_) | (with_reducible refine below_drewN ?_ _) | (with_reducible refine Below.setCell ?_ ?_ _) | (refine via ?_ (by with_reducible assumption) ?_) | (refine via ?_ (below_ext _ _) ?_) | go_size))
  have hz : w.heap.size + 2 = ((w.alloc (.cells #[.slice As ns cs, .slice Ax nx cx, .slice A0 n0 c0, .slice A1 n1 c1, .slice Ag ng cg, .slice An nn cn] 76)).alloc (.cells #[.int .i64 s.K, .int .i64 s.M, .int .i64 s.size] 23)).heap.size := by simp
  go_enter Try.func46, Try.ntmps46
  go_upto_region 1 with (fail)
  generalize ((w.alloc (.cells #[.slice As ns cs, .slice Ax nx cx, .slice A0 n0 c0, .slice A1 n1 c1, .slice Ag ng cg, .slice An nn cn] 76)).alloc (.cells #[.int .i64 s.K, .int .i64 s.M, .int .i64 s.size] 23)) = W0 at *
  have CELLS : Hid (∀ W, Below W0.heap.size W0 W → W.cell? ⟨w.heap.size, 4, none⟩ = some (.slice Ag ng cg) ∧ W.cell? ⟨w.heap.size + 1, 0, none⟩ = some (.int .i64 s.K) ∧ W.cell? ⟨w.heap.size + 1, 1, none⟩ = some (.int .i64 s.M)) := Lib.hid (fun W hW => by
    have r0 := (hW.block w.heap.size (by omega)).trans hrow0
    have r1 := (hW.block (w.heap.size + 1) (by omega)).trans hrow1
    exact ⟨cell_of_row W _ 4 _ _ _ r0, cell_of_row W _ 0 _ _ _ r1, cell_of_row W _ 1 _ _ _ r1⟩)
  have HAL := Lib.hid (fun W (hW : Below W0.heap.size W0 W) => hal.trans (hW.mono (by omega))); clear hal hrow0 hrow1
  have hz1' : w.heap.size + 1 < W0.heap.size := by omega
  clear hz
  go_wp2_with fail
  go_loopw [5, 6] (fun l i wr => ∃ k : Nat, ∃ A c, k ≤ n ∧ i = .int .i64 k ∧ l = .slice A k c ∧ Hid (Own 4 boolE wr W0.heap.size (fun _ => False) A k c (goodL p.g k)) ∧ Hid (Below W0.heap.size W0 wr)) (fun _ i _ => n - (intOf i).toNat)
  case atStart => exact ⟨0, none, 0, Nat.zero_le _, rfl, rfl, Lib.hid Own.nil_, Lib.hid (Below.refl _ _)⟩
  case round =>
    obtain ⟨k, A, c, hk', rfl, rfl, HO, HB⟩ := hrel
    obtain ⟨y0, y1, y2⟩ := CELLS.out wr HB.out
    have hs0 := HB.out.size
    by_cases hlt : k < n
    · have hsuc := goodL_succ p.g k
      have hgat : goodAt p.g k = (p.g.length == 0 || p.g.getD (k % p.g.length) false) := rfl
      generalize hv : goodAt p.g k = v at *
      have HSUC := Lib.hid hsuc; clear hsuc hv
      rw [HLG.out] at hgat
      have HV := Lib.hid hgat; clear hgat
      have hlo : ∀ b, b < W0.heap.size → some b ≠ ablk A := fun b hb e => by have := (HO.out.lt b e.symm).1; omega
      have CEL : Hid (∀ us w6, WdG wr W0.heap.size A k c p.g v us w6 → w6.cell? ⟨w.heap.size, 4, none⟩ = some (.slice Ag ng cg) ∧ w6.cell? ⟨w.heap.size + 1, 0, none⟩ = some (.int .i64 s.K) ∧ w6.cell? ⟨w.heap.size + 1, 1, none⟩ = some (.int .i64 s.M)) := Lib.hid (fun us w6 hW =>
        ⟨(World.cell?_of_block (a := ⟨w.heap.size, 4, none⟩) (hW.keep (b := w.heap.size) (by omega) (hlo w.heap.size (by omega)))).trans y0, (World.cell?_of_block (a := ⟨w.heap.size + 1, 0, none⟩) (hW.keep (b := w.heap.size + 1) (by omega) (hlo (w.heap.size + 1) (by omega)))).trans y1, (World.cell?_of_block (a := ⟨w.heap.size + 1, 1, none⟩) (hW.keep (b := w.heap.size + 1) (by omega) (hlo (w.heap.size + 1) (by omega)))).trans y2⟩)
      have hc := HO.out.le
      by_cases h0 : ng = 0
      · subst h0
        obtain rfl : v = true := by rw [HV.out]; rfl
        go_wp2_with fail
        clear y0 y1 y2
        refine region_old (by kernel_rfl) (by kernel_rfl) 35 rfl [16, 17, 18, 19, 20, 21, 22, 23, 24, 25, 26, 27, 28, 29, 30, 31, 32, 33, 5] [16, 17] [(32, 16), (33, 17)]
          [(16, [], fun _ => .slice A k c), (17, [], fun _ => .pointer (some ⟨w.heap.size, 4, none⟩)), (18, [], fun _ => .slice Ag 0 cg), (19, [], fun _ => .int .i64 0), (20, [], fun _ => .bool true), (21, [], fun _ => .bool true), (22, [], fun _ => undef), (23, [], fun _ => undef), (24, [], fun _ => undef), (25, [], fun _ => undef), (26, [], fun _ => undef), (27, [], fun _ => undef), (28, [], fun _ => undef), (29, [], fun _ => undef), (30, [], fun _ => undef), (31, [], fun _ => .bool true), (5, [17], fun l => l.getD 0 undef)]
          [] [[], [], [], [], [], [], [], [], [], [], [], [], [], [], [], [], [], [16], []] [[], [], [17], [18], [19], [20], [21], [22, 21], [21], [21], [25, 21], [26, 21], [24, 27, 21], [23, 28, 21], [29, 21], [21, 30], [31], [16, 32], [33]] [[5]] (WdG wr W0.heap.size A k c p.g true) (by kernel_rfl) (.n0 (Below.refl _ _).drew)
          ⟨?_, ?_, ?_, ?_, ?_, ?_, ?_, ?_, ?_, ?_, ?_, ?_, ?_, ?_, ?_, ?_, ?_, ?_, ?_, trivial⟩ ?_
        · (refine OpH.rd rfl rfl (fun ρ us w6 ho ht hc hl hsrc hW => ?_); have e5 := (ho 5 rfl).trans (show _ = (.slice A k c : Value) from rfl); clear ht ho; simp only [execOp, e5]; go_simp; try rfl)
        · (refine OpH.rd rfl rfl (fun ρ us w6 ho ht hc hl hsrc hW => ?_); have e2 := (ho 2 rfl).trans (show _ = (.pointer (some ⟨w.heap.size, 0, none⟩) : Value) from rfl); clear ht ho; simp only [execOp, e2]; go_simp; try rfl)
        · (refine OpH.rd rfl rfl (fun ρ us w6 ho ht hc hl hsrc hW => ?_); have e17 := (ht 17 (by decide)).trans (show _ = (.pointer (some ⟨w.heap.size, 4, none⟩) : Value) from rfl); obtain ⟨y0, y1, y2⟩ := CEL.out us w6 hW; clear ht ho; simp only [execOp, e17]; go_simp; try rfl)
        · (refine OpH.rd rfl rfl (fun ρ us w6 ho ht hc hl hsrc hW => ?_); have e18 := (ht 18 (by decide)).trans (show _ = (.slice Ag 0 cg : Value) from rfl); clear ht ho; simp only [execOp]; go_simp; try rfl)
        · (refine OpH.rd rfl rfl (fun ρ us w6 ho ht hc hl hsrc hW => ?_); have e19 := (ht 19 (by decide)).trans (show _ = (.int .i64 0 : Value) from rfl); clear ht ho; simp only [execOp, e19]; go_simp; try rfl)
        · (refine OpH.rd rfl rfl (fun ρ us w6 ho ht hc hl hsrc hW => ?_); have e20 := (ht 20 (by decide)).trans (show _ = (.bool true : Value) from rfl); clear ht ho; simp only [execOp, e20]; go_simp; try rfl)
        · (exact OpH.rdn rfl 5 21 false rfl rfl (by decide) (fun _ _ _ => rfl) (fun _ => rfl))
        · (exact OpH.rdn rfl 5 21 false rfl rfl (by decide) (fun _ _ _ => rfl) (fun _ => rfl))
        · (exact OpH.rdn rfl 5 21 false rfl rfl (by decide) (fun _ _ _ => rfl) (fun _ => rfl))
        · (exact OpH.rdn rfl 5 21 false rfl rfl (by decide) (fun _ _ _ => rfl) (fun _ => rfl))
        · (exact OpH.rdn rfl 5 21 false rfl rfl (by decide) (fun _ _ _ => rfl) (fun _ => rfl))
        · (exact OpH.rdn rfl 5 21 false rfl rfl (by decide) (fun _ _ _ => rfl) (fun _ => rfl))
        · (exact OpH.rdn rfl 5 21 false rfl rfl (by decide) (fun _ _ _ => rfl) (fun _ => rfl))
        · (exact OpH.rdn rfl 5 21 false rfl rfl (by decide) (fun _ _ _ => rfl) (fun _ => rfl))
        · (exact OpH.rdn rfl 5 21 false rfl rfl (by decide) (fun _ _ _ => rfl) (fun _ => rfl))
        · (refine OpH.rd rfl rfl (fun ρ us w6 ho ht hc hl hsrc hW => ?_); have e21 := (ht 21 (by decide)).trans (show _ = (.bool true : Value) from rfl); have e30 := (ht 30 (by decide)).trans (show _ = (undef : Value) from rfl); clear ht ho; simp only [execOp, e21, e30]; go_simp; try rfl)
        · refine OpH.wr rfl (fun Z us w6 ho ht hni hlim hreq hW K hK => ?_)
          have e31 := (ht 31 (by decide)).trans (show _ = (.bool true : Value) from rfl)
          have key : ∀ g, g = w6.heap.size → WdG wr W0.heap.size A k c p.g true (us ++ [(16, .slice (some ⟨g, 0, none⟩) 1 1)]) (w6.alloc (.cells #[.bool true] 4)) := by
            rintro g rfl
            cases hW with
            | n0 hB => exact .nb (hB.alloc hB.size _) (heap_alloc_new _ _)
            | nb _ _ => exact absurd (by simp) hni
            | done _ _ _ => exact absurd (by simp) hni
          have KEY := Lib.hid key; clear key hW hni hlim hreq ho ht
          rw [if_pos (by simp [Region.wanted])]
          unfold Oper.wp
          generalize Z.eval = ρ at *
          simp only [execOp, List.map_toArray, List.map_cons, List.map_nil, e31]
          go_simp
          exact hK _ _ (KEY.out _ rfl)
        · refine OpH.wr rfl (fun Z us w6 ho ht hni hlim hreq hW K hK => ?_)
          have r16 := hreq 16 (by decide)
          cases hW with
          | n0 _ => exact absurd r16 (by simp)
          | done _ _ _ => exact absurd (by simp) hni
          | @nb _ b hB hrow =>
            have e16 := (ht 16 (by decide)).trans (show _ = (.slice A k c : Value) from rfl)
            have e32 := (ht 32 (by decide)).trans (show _ = (.slice (some ⟨b, 0, none⟩) 1 1 : Value) from rfl)
            have hb := hB.size
            refine step_append1 rfl (.tmp 16) (.tmp 32) 30 rfl i0 (.bool false) 1 Try.underlying30 hi0 hz0 hz1 hz2 rfl (by decide) e16 (HO.out.all hB) b 4 1 [.bool true] true e32 hrow ⟨rfl, trivial⟩ (by omega) (by omega) (by omega) ?_
            intro A' c' w7 hown hg _
            exact hK _ _ (.done hB hg hown)
        · (refine OpH.rd rfl rfl (fun ρ us w6 ho ht hc hl hsrc hW => ?_); have e33 := (ht 33 (by decide)).trans (show _ = ((us.lookup 17).getD undef : Value) from rfl); clear ht ho; simp only [execOp, e33]; go_simp; try rfl)
        · intro us w7 hmem hW
          have r17 := hmem 17 (by decide)
          cases hW with
          | n0 _ => exact absurd r17 (by simp)
          | nb _ _ => exact absurd r17 (by simp)
          | @done W6 _ x A' c' hB hg hown =>
          simp only [putAll, List.map_cons, List.map_nil, List.foldl_cons, List.foldl_nil, Act.put, List.setIfInBounds_toArray, List.set_cons_succ, List.set_cons_zero]
          generalize hsv : slotAt _ _ _ = sv
          have h5 : sv 5 = .slice A' (k + 1) c' := by rw [← hsv]; rfl
          rw [h5]
          clear hsv h5
          have HO2 := Lib.hid (show Own 4 boolE w7 W0.heap.size (fun _ => False) A' (k + 1) c' (goodL p.g (k + 1)) by rw [HSUC.out]; exact hown)
          have HB2 := Lib.hid ((HB.out.trans (hB.mono hs0)).grown hg (by have := hB.size; omega) (fun r hr => (HO.out.lt r hr).1))
          clear hB hg hown hmem r17 CEL
          go_wp2
          go_roundw
          case rel => exact ⟨k + 1, A', c', by omega, by go_num, rfl, HO2, HB2⟩
          case measure => simp [intOf]; omega
      · have hlt' : k % ng < ng := Nat.mod_lt _ (by omega)
        obtain ⟨bg, og, rfl, hSg, hbg, hgc, _⟩ := (HG.out wr (HAL.out _ HB.out)).bool_at hlt'
        have hvv : p.g.getD (k % ng) false = v := by
          rw [HV.out, show (ng == 0) = false by simpa using h0]; rfl
        rw [hvv] at hgc
        have hng0 : ((ng : Int) == 0) = false := by simp; omega
        have hbw : bg < w.heap.size := hSg.2
        have GC : Hid (∀ us w6, WdG wr W0.heap.size A k c p.g v us w6 → w6.cell? ⟨bg, og + k % ng, none⟩ = some (.bool v)) := Lib.hid (fun us w6 hW => (World.cell?_of_block (a := ⟨bg, og + k % ng, none⟩) (hW.keep (b := bg) hbg (hlo bg (by omega)))).trans hgc)
        clear hvv hgc
        go_wp2_with fail
        clear y0 y1 y2
        refine region_old (by kernel_rfl) (by kernel_rfl) 35 rfl [16, 17, 18, 19, 20, 21, 22, 23, 24, 25, 26, 27, 28, 29, 30, 31, 32, 33, 5] [16, 17] [(32, 16), (33, 17)]
          [(16, [], fun _ => .slice A k c), (17, [], fun _ => .pointer (some ⟨w.heap.size, 4, none⟩)), (18, [], fun _ => .slice (some ⟨bg, og, none⟩) ng cg), (19, [], fun _ => .int .i64 (ng : Int)), (20, [], fun _ => .bool false), (21, [], fun _ => .bool false), (22, [], fun _ => .pointer (some ⟨w.heap.size, 4, none⟩)), (23, [], fun _ => .slice (some ⟨bg, og, none⟩) ng cg), (24, [], fun _ => .int .i64 (k : Int)), (25, [], fun _ => .pointer (some ⟨w.heap.size, 4, none⟩)), (26, [], fun _ => .slice (some ⟨bg, og, none⟩) ng cg), (27, [], fun _ => .int .i64 (ng : Int)), (28, [], fun _ => .int .i64 ((k % ng : Nat) : Int)), (29, [], fun _ => .pointer (some ⟨bg, og + k % ng, none⟩)), (30, [], fun _ => .bool v), (31, [], fun _ => .bool v), (5, [17], fun l => l.getD 0 undef)]
          [] [[], [], [], [], [], [], [], [], [], [], [], [], [], [], [], [], [], [16], []] [[], [], [17], [18], [19], [20], [21], [22, 21], [21], [21], [25, 21], [26, 21], [24, 27, 21], [23, 28, 21], [29, 21], [21, 30], [31], [16, 32], [33]] [[5]] (WdG wr W0.heap.size A k c p.g v) (by kernel_rfl) (.n0 (Below.refl _ _).drew)
          ⟨?_, ?_, ?_, ?_, ?_, ?_, ?_, ?_, ?_, ?_, ?_, ?_, ?_, ?_, ?_, ?_, ?_, ?_, ?_, trivial⟩ ?_
        · (refine OpH.rd rfl rfl (fun ρ us w6 ho ht hc hl hsrc hW => ?_); have e5 := (ho 5 rfl).trans (show _ = (.slice A k c : Value) from rfl); clear ht ho; simp only [execOp, e5]; go_simp; try rfl)
        · (refine OpH.rd rfl rfl (fun ρ us w6 ho ht hc hl hsrc hW => ?_); have e2 := (ho 2 rfl).trans (show _ = (.pointer (some ⟨w.heap.size, 0, none⟩) : Value) from rfl); clear ht ho; simp only [execOp, e2]; go_simp; try rfl)
        · (refine OpH.rd rfl rfl (fun ρ us w6 ho ht hc hl hsrc hW => ?_); have e17 := (ht 17 (by decide)).trans (show _ = (.pointer (some ⟨w.heap.size, 4, none⟩) : Value) from rfl); obtain ⟨y0, y1, y2⟩ := CEL.out us w6 hW; clear ht ho; simp only [execOp, e17]; go_simp; try rfl)
        · (refine OpH.rd rfl rfl (fun ρ us w6 ho ht hc hl hsrc hW => ?_); have e18 := (ht 18 (by decide)).trans (show _ = (.slice (some ⟨bg, og, none⟩) ng cg : Value) from rfl); clear ht ho; simp only [execOp]; go_simp; try rfl)
        · (refine OpH.rd rfl rfl (fun ρ us w6 ho ht hc hl hsrc hW => ?_); have e19 := (ht 19 (by decide)).trans (show _ = (.int .i64 (ng : Int) : Value) from rfl); clear ht ho; simp only [execOp, e19]; go_simp; try rfl)
        · (refine OpH.rd rfl rfl (fun ρ us w6 ho ht hc hl hsrc hW => ?_); have e20 := (ht 20 (by decide)).trans (show _ = (.bool false : Value) from rfl); clear ht ho; simp only [execOp, e20]; go_simp; try rfl)
        · (refine OpH.rdg rfl 5 21 false rfl rfl (by decide) (fun _ _ _ => rfl) (fun ρ us w6 ho ht hc hl hsrc hW => ?_); have e2 := (ho 2 rfl).trans (show _ = (.pointer (some ⟨w.heap.size, 0, none⟩) : Value) from rfl); clear ht ho; simp only [execOp, e2]; go_simp; try rfl)
        · (refine OpH.rdg rfl 5 21 false rfl rfl (by decide) (fun _ _ _ => rfl) (fun ρ us w6 ho ht hc hl hsrc hW => ?_); have e22 := (ht 22 (by decide)).trans (show _ = (.pointer (some ⟨w.heap.size, 4, none⟩) : Value) from rfl); obtain ⟨y0, y1, y2⟩ := CEL.out us w6 hW; clear ht ho; simp only [execOp, e22]; go_simp; try rfl)
        · (refine OpH.rdg rfl 5 21 false rfl rfl (by decide) (fun _ _ _ => rfl) (fun ρ us w6 ho ht hc hl hsrc hW => ?_); have e6 := (ho 6 rfl).trans (show _ = (.int .i64 (k : Int) : Value) from rfl); clear ht ho; simp only [execOp, e6]; go_simp; try rfl)
        · (refine OpH.rdg rfl 5 21 false rfl rfl (by decide) (fun _ _ _ => rfl) (fun ρ us w6 ho ht hc hl hsrc hW => ?_); have e2 := (ho 2 rfl).trans (show _ = (.pointer (some ⟨w.heap.size, 0, none⟩) : Value) from rfl); clear ht ho; simp only [execOp, e2]; go_simp; try rfl)
        · (refine OpH.rdg rfl 5 21 false rfl rfl (by decide) (fun _ _ _ => rfl) (fun ρ us w6 ho ht hc hl hsrc hW => ?_); have e25 := (ht 25 (by decide)).trans (show _ = (.pointer (some ⟨w.heap.size, 4, none⟩) : Value) from rfl); obtain ⟨y0, y1, y2⟩ := CEL.out us w6 hW; clear ht ho; simp only [execOp, e25]; go_simp; try rfl)
        · (refine OpH.rdg rfl 5 21 false rfl rfl (by decide) (fun _ _ _ => rfl) (fun ρ us w6 ho ht hc hl hsrc hW => ?_); have e26 := (ht 26 (by decide)).trans (show _ = (.slice (some ⟨bg, og, none⟩) ng cg : Value) from rfl); clear ht ho; simp only [execOp]; go_simp; try rfl)
        · (refine OpH.rdg rfl 5 21 false rfl rfl (by decide) (fun _ _ _ => rfl) (fun ρ us w6 ho ht hc hl hsrc hW => ?_); have e24 := (ht 24 (by decide)).trans (show _ = (.int .i64 (k : Int) : Value) from rfl); have e27 := (ht 27 (by decide)).trans (show _ = (.int .i64 (ng : Int) : Value) from rfl); clear ht ho; simp only [execOp, e24, e27]; go_simp; try rfl)
        · (refine OpH.rdg rfl 5 21 false rfl rfl (by decide) (fun _ _ _ => rfl) (fun ρ us w6 ho ht hc hl hsrc hW => ?_); have e23 := (ht 23 (by decide)).trans (show _ = (.slice (some ⟨bg, og, none⟩) ng cg : Value) from rfl); have e28 := (ht 28 (by decide)).trans (show _ = (.int .i64 ((k % ng : Nat) : Int) : Value) from rfl); clear ht ho; simp only [execOp, e23, e28]; go_simp; first | rfl | (rw [if_pos (show (0 : Int) ≤ (k : Int) % (ng : Int) ∧ (k : Int) % (ng : Int) < (ng : Int) from ⟨by rw [← Int.natCast_emod]; omega, by rw [← Int.natCast_emod]; omega⟩), ← Int.natCast_emod, Int.toNat_natCast]; rfl))
        · (refine OpH.rdg rfl 5 21 false rfl rfl (by decide) (fun _ _ _ => rfl) (fun ρ us w6 ho ht hc hl hsrc hW => ?_); have e29 := (ht 29 (by decide)).trans (show _ = (.pointer (some ⟨bg, og + k % ng, none⟩) : Value) from rfl); have y0 := GC.out us w6 hW; clear ht ho; simp only [execOp, e29]; go_simp; try rfl)
        · (refine OpH.rd rfl rfl (fun ρ us w6 ho ht hc hl hsrc hW => ?_); have e21 := (ht 21 (by decide)).trans (show _ = (.bool false : Value) from rfl); have e30 := (ht 30 (by decide)).trans (show _ = (.bool v : Value) from rfl); clear ht ho; simp only [execOp, e21, e30]; go_simp; try rfl)
        · refine OpH.wr rfl (fun Z us w6 ho ht hni hlim hreq hW K hK => ?_)
          have e31 := (ht 31 (by decide)).trans (show _ = (.bool v : Value) from rfl)
          have key : ∀ g, g = w6.heap.size → WdG wr W0.heap.size A k c p.g v (us ++ [(16, .slice (some ⟨g, 0, none⟩) 1 1)]) (w6.alloc (.cells #[.bool v] 4)) := by
            rintro g rfl
            cases hW with
            | n0 hB => exact .nb (hB.alloc hB.size _) (heap_alloc_new _ _)
            | nb _ _ => exact absurd (by simp) hni
            | done _ _ _ => exact absurd (by simp) hni
          have KEY := Lib.hid key; clear key hW hni hlim hreq ho ht
          rw [if_pos (by simp [Region.wanted])]
          unfold Oper.wp
          generalize Z.eval = ρ at *
          simp only [execOp, List.map_toArray, List.map_cons, List.map_nil, e31]
          go_simp
          exact hK _ _ (KEY.out _ rfl)
        · refine OpH.wr rfl (fun Z us w6 ho ht hni hlim hreq hW K hK => ?_)
          have r16 := hreq 16 (by decide)
          cases hW with
          | n0 _ => exact absurd r16 (by simp)
          | done _ _ _ => exact absurd (by simp) hni
          | @nb _ b hB hrow =>
            have e16 := (ht 16 (by decide)).trans (show _ = (.slice A k c : Value) from rfl)
            have e32 := (ht 32 (by decide)).trans (show _ = (.slice (some ⟨b, 0, none⟩) 1 1 : Value) from rfl)
            have hb := hB.size
            refine step_append1 rfl (.tmp 16) (.tmp 32) 30 rfl i0 (.bool false) 1 Try.underlying30 hi0 hz0 hz1 hz2 rfl (by decide) e16 (HO.out.all hB) b 4 1 [.bool v] v e32 hrow ⟨rfl, trivial⟩ (by omega) (by omega) (by omega) ?_
            intro A' c' w7 hown hg _
            exact hK _ _ (.done hB hg hown)
        · (refine OpH.rd rfl rfl (fun ρ us w6 ho ht hc hl hsrc hW => ?_); have e33 := (ht 33 (by decide)).trans (show _ = ((us.lookup 17).getD undef : Value) from rfl); clear ht ho; simp only [execOp, e33]; go_simp; try rfl)
        · intro us w7 hmem hW
          have r17 := hmem 17 (by decide)
          cases hW with
          | n0 _ => exact absurd r17 (by simp)
          | nb _ _ => exact absurd r17 (by simp)
          | @done W6 _ x A' c' hB hg hown =>
          simp only [putAll, List.map_cons, List.map_nil, List.foldl_cons, List.foldl_nil, Act.put, List.setIfInBounds_toArray, List.set_cons_succ, List.set_cons_zero]
          generalize hsv : slotAt _ _ _ = sv
          have h5 : sv 5 = .slice A' (k + 1) c' := by rw [← hsv]; rfl
          rw [h5]
          clear hsv h5
          have HO2 := Lib.hid (show Own 4 boolE w7 W0.heap.size (fun _ => False) A' (k + 1) c' (goodL p.g (k + 1)) by rw [HSUC.out]; exact hown)
          have HB2 := Lib.hid ((HB.out.trans (hB.mono hs0)).grown hg (by have := hB.size; omega) (fun r hr => (HO.out.lt r hr).1))
          clear hB hg hown hmem r17 CEL
          go_wp2
          go_roundw
          case rel => exact ⟨k + 1, A', c', by omega, by go_num, rfl, HO2, HB2⟩
          case measure => simp [intOf]; omega
    · obtain rfl : n = k := by omega
      have HO2 := Lib.hid (show Own 4 boolE wr w.heap.size (fun b => w.heap.size ≤ b) A (goodL p.g n).length c (goodL p.g n) by
        rw [goodL_len]
        exact (own_down HO.out (by omega)).mono (fun b hb _ => hb.elim))
      go_wp2
      go_ret
      exact ⟨A, c, by rw [goodL_len]; rfl, HO2.out, HAL.out _ HB.out⟩
end Go.Proofs.Ytfccghfcilccfaa
