/- book.tags: may a book's tags be? -/
import Derived.Test.YtipecejghioicaaDatar
import Derived.Test.YtipecejghioicaaS3r
import Derived.Test.YtipecejghioicaaB6r
import Derived.Deep.CutBlock
import Derived.Deep.Cut
namespace Go.Proofs.Ytipecejghioicaa
open Go.RowKit Go.Silo

/-- The order of strings, by bytes. -/
def strLt (a b : ByteArray) : Bool := Op.bytesLess a.toList b.toList
theorem bytes_tri : ∀ x y : List UInt8, (Op.bytesLess y x || (y == x)) = !Op.bytesLess x y
  | [], [] => rfl
  | [], _ :: _ => by simp [Op.bytesLess]
  | _ :: _, [] => by simp [Op.bytesLess]
  | a :: x, b :: y => by
    have ih := bytes_tri x y
    unfold Op.bytesLess
    rcases Nat.lt_trichotomy a.toNat b.toNat with h | h | h
    · have h1 : decide (a < b) = true := decide_eq_true (UInt8.lt_iff_toNat_lt.2 h)
      have h2 : decide (b < a) = false := decide_eq_false (fun h' => by have := UInt8.lt_iff_toNat_lt.1 h'; omega)
      have h3 : (b == a) = false := by simp; intro e; subst e; omega
      simp [h1, h2, h3]
    · obtain rfl := UInt8.toNat_inj.1 h
      have h1 : decide (a < a) = false := by simp
      simp [← ih]
    · have h1 : decide (a < b) = false := decide_eq_false (fun h' => by have := UInt8.lt_iff_toNat_lt.1 h'; omega)
      have h2 : decide (b < a) = true := decide_eq_true (UInt8.lt_iff_toNat_lt.2 h)
      have h3 : (a == b) = false := by simp; intro e; subst e; omega
      simp [h1, h2, h3]
theorem str_leq (a b : ByteArray) : (Op.bytesLess b.toList a.toList || (b.toList == a.toList)) = !strLt a b := bytes_tri _ _
theorem run_leq (x y : ByteArray) (W : World) : (binOp .leq 9 (.string x) (.string y)).run Try.prog W = .ok (.bool (Op.bytesLess x.toList y.toList || (x.toList == y.toList))) W := by
  simp [binOp, go_sem, Op.stringOp]
/-- May the tag at place k be, behind those ahead? -/
def tagAt (l : List Tag) (k : Nat) : Bool := decide (1 ≤ (l.getD k default).name.size ∧ (l.getD k default).name.size ≤ 40 ∧ (l.getD k default).digest.size = 32) && (decide (k = 0) || strLt (l.getD (k - 1) default).name (l.getD k default).name)
def tagsOk (l : List Tag) : Bool := (List.range l.length).all (tagAt l) && decide (l.length ≤ 40)
theorem tagsOk_bad {l : List Tag} {k : Nat} (h : k < l.length) (hk : tagAt l k = false) : tagsOk l = false := by
  unfold tagsOk
  have : (List.range l.length).all (tagAt l) = false := by
    rw [List.all_eq_false]
    exact ⟨k, List.mem_range.2 h, by simp [hk]⟩
  rw [this]; rfl
theorem tagsOk_all {l : List Tag} (h : ∀ k, k < l.length → tagAt l k = true) : tagsOk l = decide (l.length ≤ 40) := by
  unfold tagsOk
  have : (List.range l.length).all (tagAt l) = true := List.all_eq_true.2 (fun k hk => h k (List.mem_range.1 hk))
  rw [this]; rfl
set_option maxRecDepth 100000 in
set_option maxHeartbeats 8000000 in
theorem tags_c {tg : Bool} {T : TypeId} {S : Nat → Prop} {w : World} {A : Option Addr} {n c : Nat} {xs : List Tag} (h : Sl tg T tagE w S A n c xs) :
    Calls Try.prog 29 #[.slice A n c] w (RetV (.bool (tagsOk xs)) w) := by
  have HL := Lib.hid h.len
  have hcap : n ≤ 9223372036854775807 := Nat.le_trans h.le h.cap
  obtain ⟨R, hR⟩ : ∃ R, R = tagsOk xs := ⟨_, rfl⟩
  rw [← hR]
  have HR := Lib.hid hR; clear hR
  go_enter Try.func29, Try.ntmps29
  go_wp2_with fail
  go_loopw [7] (fun i wr => ∃ k : Nat, k ≤ n ∧ i = .int .i64 k ∧ Hid (Below w.heap.size w wr) ∧ Hid (∀ j, j < k → tagAt xs j = true)) (fun i _ => n - (intOf i).toNat)
  case atStart => exact ⟨0, Nat.zero_le _, rfl, Lib.hid (Below.refl _ _), Lib.hid (fun j hj => by omega)⟩
  case round =>
    rename World => wo
    obtain ⟨k, hk, rfl, HB, HA⟩ := hrel
    by_cases hlt : k < n
    · obtain ⟨b, off, rfl, _, hbl, so1, so2, hc0, hc1, _, _⟩ := (h.all HB.out).tag_at hlt
      have hp : 0 < k → wo.cell? ⟨b, off + (k - 1) * 2, none⟩ = some (.string (xs.getD (k - 1) default).name) := fun h0 => by
        obtain ⟨b', off', e, _, _, _, _, hd, _⟩ := (h.all HB.out).tag_at (k := k - 1) (by omega)
        injection e with e; injection e with e1 e2 _; subst e1; subst e2
        exact hd
      obtain ⟨y, hy⟩ : ∃ y, y = (xs.getD (k - 1) default).name := ⟨_, rfl⟩
      rw [← hy] at hp
      have hat : tagAt xs k = (decide (1 ≤ (xs.getD k default).name.size ∧ (xs.getD k default).name.size ≤ 40 ∧ (xs.getD k default).digest.size = 32) && (decide (k = 0) || strLt y (xs.getD k default).name)) := by rw [hy]; rfl
      generalize xs.getD k default = x at *
      clear hy
      have HAT := Lib.hid hat; clear hat
      go_upto_region 4 with (fail)
      have hal : Below wo.heap.size wo (wo.alloc (.cells #[.string x.name, .string x.digest] 73)) := (Below.refl _ _).alloc (Nat.le_refl _) _
      have hrow := heap_alloc_new wo (.cells #[.string x.name, .string x.digest] 73)
      have hzl : wo.heap.size < (wo.alloc (.cells #[.string x.name, .string x.digest] 73)).heap.size := by simp
      have hbl2 : b < (wo.alloc (.cells #[.string x.name, .string x.digest] 73)).heap.size := by simp; omega
      have hp2 := fun h0 => (hal.cell (p := ⟨b, off + (k - 1) * 2, none⟩) hbl).trans (hp h0)
      generalize (wo.alloc (.cells #[.string x.name, .string x.digest] 73)) = w4 at *
      have ROW4 := Lib.hid (fun V (hV : Below w4.heap.size w4 V) => And.intro (cell_of_row V _ 0 _ _ _ ((hV.block _ hzl).trans hrow)) (cell_of_row V _ 1 _ _ _ ((hV.block _ hzl).trans hrow)))
      have HB4 := Lib.hid (HB.out.trans (hal.mono HB.out.size))
      clear hal hrow hc0 hc1 hp hbl
      generalize wo.heap.size = g4 at *
      go_cut [42] from 12 to 42 (fun t V => t = .bool (!tagAt xs k) ∧ Hid (Below w4.heap.size w4 V))
      case first =>
        by_cases h1 : (x.name.size : Int) < 1
        · have HAX : Hid (tagAt xs k = false) := Lib.hid (by rw [HAT.out, decide_eq_false (by omega)]; rfl)
          clear HAT hp2
          go_wp2_with fail
          refine region_free (by kernel_rfl) (by kernel_rfl) 47 rfl [12, 13, 14, 15, 16, 17, 18, 19, 20, 21, 22, 23, 24, 25, 26, 27, 28, 29, 30, 31, 32, 33, 34, 35, 36, 37, 38, 39, 40, 41, 42] [] []
            [(12, [], fun _ => .pointer (some ⟨g4, 0, none⟩)), (13, [], fun _ => .string x.name), (14, [], fun _ => .int .i64 (x.name.size : Int)), (15, [], fun _ => .bool true), (16, [], fun _ => .bool true), (17, [], fun _ => undef), (18, [], fun _ => undef), (19, [], fun _ => undef), (20, [], fun _ => undef), (21, [], fun _ => .bool true), (22, [], fun _ => .bool true), (23, [], fun _ => undef), (24, [], fun _ => undef), (25, [], fun _ => undef), (26, [], fun _ => undef), (27, [], fun _ => .bool true), (28, [], fun _ => .bool true), (29, [], fun _ => undef), (30, [], fun _ => undef), (31, [], fun _ => undef), (32, [], fun _ => undef), (33, [], fun _ => undef), (34, [], fun _ => undef), (35, [], fun _ => undef), (36, [], fun _ => undef), (37, [], fun _ => undef), (38, [], fun _ => undef), (39, [], fun _ => undef), (40, [], fun _ => undef), (41, [], fun _ => undef), (42, [], fun _ => .bool true)]
            [] [] [[], [12], [13], [14], [15], [16], [17, 16], [18, 16], [19, 16], [16, 20], [21], [22], [23, 22], [24, 22], [25, 22], [22, 26], [27], [28], [29, 28], [30, 28], [31], [32, 31], [31], [31], [35, 31], [34, 36, 31], [37, 31], [38, 31], [33, 39, 31], [31, 40, 28], [28, 41]]
            (WdB w4 (fun _ _ _ => True)) (by kernel_rfl) .init ⟨?_, ?_, ?_, ?_, ?_, ?_, ?_, ?_, ?_, ?_, ?_, ?_, ?_, ?_, ?_, ?_, ?_, ?_, ?_, ?_, ?_, ?_, ?_, ?_, ?_, ?_, ?_, ?_, ?_, ?_, ?_, trivial⟩ ?_
          -- FAST31 cdot
          · (refine OpH.rd rfl rfl (fun ρ us w6 ho ht hc hl hsrc hW => ?_); have e4 := (ho 4 rfl).trans (show _ = (.pointer (some ⟨g4, 0, none⟩) : Value) from rfl); clear ht ho; simp only [execOp, e4]; go_simp; try rfl)
          · (refine OpH.rd rfl rfl (fun ρ us w6 ho ht hc hl hsrc hW => ?_); have e12 := (ht 12 (by decide)).trans (show _ = (.pointer (some ⟨g4, 0, none⟩) : Value) from rfl); have z := ROW4.out w6 hW.1; have z0 := z.1; have z1 := z.2; clear ht ho; simp only [execOp, e12]; go_simp; try rfl)
          · (refine OpH.rd rfl rfl (fun ρ us w6 ho ht hc hl hsrc hW => ?_); have e13 := (ht 13 (by decide)).trans (show _ = (.string x.name : Value) from rfl); clear ht ho; simp only [execOp]; go_simp; try rfl)
          · (refine OpH.rd rfl rfl (fun ρ us w6 ho ht hc hl hsrc hW => ?_); have e14 := (ht 14 (by decide)).trans (show _ = (.int .i64 (x.name.size : Int) : Value) from rfl); clear ht ho; simp only [execOp, e14]; go_simp; try rfl)
          · (refine OpH.rd rfl rfl (fun ρ us w6 ho ht hc hl hsrc hW => ?_); have e15 := (ht 15 (by decide)).trans (show _ = (.bool true : Value) from rfl); clear ht ho; simp only [execOp, e15]; go_simp; try rfl)
          · (exact OpH.rdn rfl 4 16 false rfl rfl (by decide) (fun _ _ _ => rfl) (fun _ => rfl))
          · (exact OpH.rdn rfl 4 16 false rfl rfl (by decide) (fun _ _ _ => rfl) (fun _ => rfl))
          · (exact OpH.rdn rfl 4 16 false rfl rfl (by decide) (fun _ _ _ => rfl) (fun _ => rfl))
          · (exact OpH.rdn rfl 4 16 false rfl rfl (by decide) (fun _ _ _ => rfl) (fun _ => rfl))
          · (refine OpH.rd rfl rfl (fun ρ us w6 ho ht hc hl hsrc hW => ?_); have e16 := (ht 16 (by decide)).trans (show _ = (.bool true : Value) from rfl); have e20 := (ht 20 (by decide)).trans (show _ = (undef : Value) from rfl); clear ht ho; simp only [execOp, e16, e20]; go_simp; try rfl)
          · (refine OpH.rd rfl rfl (fun ρ us w6 ho ht hc hl hsrc hW => ?_); have e21 := (ht 21 (by decide)).trans (show _ = (.bool true : Value) from rfl); clear ht ho; simp only [execOp, e21]; go_simp; try rfl)
          · (exact OpH.rdn rfl 10 22 false rfl rfl (by decide) (fun _ _ _ => rfl) (fun _ => rfl))
          · (exact OpH.rdn rfl 10 22 false rfl rfl (by decide) (fun _ _ _ => rfl) (fun _ => rfl))
          · (exact OpH.rdn rfl 10 22 false rfl rfl (by decide) (fun _ _ _ => rfl) (fun _ => rfl))
          · (exact OpH.rdn rfl 10 22 false rfl rfl (by decide) (fun _ _ _ => rfl) (fun _ => rfl))
          · (refine OpH.rd rfl rfl (fun ρ us w6 ho ht hc hl hsrc hW => ?_); have e22 := (ht 22 (by decide)).trans (show _ = (.bool true : Value) from rfl); have e26 := (ht 26 (by decide)).trans (show _ = (undef : Value) from rfl); clear ht ho; simp only [execOp, e22, e26]; go_simp; try rfl)
          · (refine OpH.rd rfl rfl (fun ρ us w6 ho ht hc hl hsrc hW => ?_); have e27 := (ht 27 (by decide)).trans (show _ = (.bool true : Value) from rfl); clear ht ho; simp only [execOp, e27]; go_simp; try rfl)
          · (exact OpH.rdn rfl 16 28 false rfl rfl (by decide) (fun _ _ _ => rfl) (fun _ => rfl))
          · (exact OpH.rdn rfl 16 28 false rfl rfl (by decide) (fun _ _ _ => rfl) (fun _ => rfl))
          · (exact OpH.rdn rfl 16 28 false rfl rfl (by decide) (fun _ _ _ => rfl) (fun _ => rfl))
          · (exact OpH.rdu rfl 19 31 true rfl rfl (by decide) (fun _ _ _ => rfl) (fun _ => rfl))
          · (exact OpH.rdu rfl 19 31 true rfl rfl (by decide) (fun _ _ _ => rfl) (fun _ => rfl))
          · (exact OpH.rdu rfl 19 31 true rfl rfl (by decide) (fun _ _ _ => rfl) (fun _ => rfl))
          · (exact OpH.rdu rfl 19 31 true rfl rfl (by decide) (fun _ _ _ => rfl) (fun _ => rfl))
          · (exact OpH.rdu rfl 19 31 true rfl rfl (by decide) (fun _ _ _ => rfl) (fun _ => rfl))
          · (exact OpH.rdu rfl 19 31 true rfl rfl (by decide) (fun _ _ _ => rfl) (fun _ => rfl))
          · (exact OpH.rdu rfl 19 31 true rfl rfl (by decide) (fun _ _ _ => rfl) (fun _ => rfl))
          · (exact OpH.rdu rfl 19 31 true rfl rfl (by decide) (fun _ _ _ => rfl) (fun _ => rfl))
          · (exact OpH.rdu rfl 19 31 true rfl rfl (by decide) (fun _ _ _ => rfl) (fun _ => rfl))
          · (exact OpH.rdn rfl 16 28 false rfl rfl (by decide) (fun _ _ _ => rfl) (fun _ => rfl))
          · (refine OpH.rd rfl rfl (fun ρ us w6 ho ht hc hl hsrc hW => ?_); have e28 := (ht 28 (by decide)).trans (show _ = (.bool true : Value) from rfl); have e41 := (ht 41 (by decide)).trans (show _ = (undef : Value) from rfl); clear ht ho; simp only [execOp, e28, e41]; go_simp; try rfl)
          -- TSAF
          · intro us w9 hmem hW
            simp only [putAll, List.map_cons, List.map_nil, List.foldl_cons, List.foldl_nil, Act.put, List.setIfInBounds_toArray, List.set_cons_succ, List.set_cons_zero]
            generalize hsv : slotAt _ _ us = sv
            have hq : sv 42 = (.bool true : Value) := by rw [← hsv]; rfl
            rw [hq]
            have HB9 := Lib.hid hW.1
            clear hsv hq hmem hW
            go_wp2
            go_meet
            case rel => exact ⟨by rw [HAX.out]; rfl, HB9⟩
        · by_cases h2 : 40 < (x.name.size : Int)
          · have HAX : Hid (tagAt xs k = false) := Lib.hid (by rw [HAT.out, decide_eq_false (by omega)]; rfl)
            clear HAT hp2
            go_wp2_with fail
            refine region_free (by kernel_rfl) (by kernel_rfl) 47 rfl [12, 13, 14, 15, 16, 17, 18, 19, 20, 21, 22, 23, 24, 25, 26, 27, 28, 29, 30, 31, 32, 33, 34, 35, 36, 37, 38, 39, 40, 41, 42] [] []
              [(12, [], fun _ => .pointer (some ⟨g4, 0, none⟩)), (13, [], fun _ => .string x.name), (14, [], fun _ => .int .i64 (x.name.size : Int)), (15, [], fun _ => .bool false), (16, [], fun _ => .bool false), (17, [], fun _ => .pointer (some ⟨g4, 0, none⟩)), (18, [], fun _ => .string x.name), (19, [], fun _ => .int .i64 (x.name.size : Int)), (20, [], fun _ => .bool true), (21, [], fun _ => .bool true), (22, [], fun _ => .bool true), (23, [], fun _ => undef), (24, [], fun _ => undef), (25, [], fun _ => undef), (26, [], fun _ => undef), (27, [], fun _ => .bool true), (28, [], fun _ => .bool true), (29, [], fun _ => undef), (30, [], fun _ => undef), (31, [], fun _ => undef), (32, [], fun _ => undef), (33, [], fun _ => undef), (34, [], fun _ => undef), (35, [], fun _ => undef), (36, [], fun _ => undef), (37, [], fun _ => undef), (38, [], fun _ => undef), (39, [], fun _ => undef), (40, [], fun _ => undef), (41, [], fun _ => undef), (42, [], fun _ => .bool true)]
              [] [] [[], [12], [13], [14], [15], [16], [17, 16], [18, 16], [19, 16], [16, 20], [21], [22], [23, 22], [24, 22], [25, 22], [22, 26], [27], [28], [29, 28], [30, 28], [31], [32, 31], [31], [31], [35, 31], [34, 36, 31], [37, 31], [38, 31], [33, 39, 31], [31, 40, 28], [28, 41]]
              (WdB w4 (fun _ _ _ => True)) (by kernel_rfl) .init ⟨?_, ?_, ?_, ?_, ?_, ?_, ?_, ?_, ?_, ?_, ?_, ?_, ?_, ?_, ?_, ?_, ?_, ?_, ?_, ?_, ?_, ?_, ?_, ?_, ?_, ?_, ?_, ?_, ?_, ?_, ?_, trivial⟩ ?_
            -- FAST31 cdot
            · (refine OpH.rd rfl rfl (fun ρ us w6 ho ht hc hl hsrc hW => ?_); have e4 := (ho 4 rfl).trans (show _ = (.pointer (some ⟨g4, 0, none⟩) : Value) from rfl); clear ht ho; simp only [execOp, e4]; go_simp; try rfl)
            · (refine OpH.rd rfl rfl (fun ρ us w6 ho ht hc hl hsrc hW => ?_); have e12 := (ht 12 (by decide)).trans (show _ = (.pointer (some ⟨g4, 0, none⟩) : Value) from rfl); have z := ROW4.out w6 hW.1; have z0 := z.1; have z1 := z.2; clear ht ho; simp only [execOp, e12]; go_simp; try rfl)
            · (refine OpH.rd rfl rfl (fun ρ us w6 ho ht hc hl hsrc hW => ?_); have e13 := (ht 13 (by decide)).trans (show _ = (.string x.name : Value) from rfl); clear ht ho; simp only [execOp]; go_simp; try rfl)
            · (refine OpH.rd rfl rfl (fun ρ us w6 ho ht hc hl hsrc hW => ?_); have e14 := (ht 14 (by decide)).trans (show _ = (.int .i64 (x.name.size : Int) : Value) from rfl); clear ht ho; simp only [execOp, e14]; go_simp; exact congrArg Value.bool (decide_eq_false (by omega)))
            · (refine OpH.rd rfl rfl (fun ρ us w6 ho ht hc hl hsrc hW => ?_); have e15 := (ht 15 (by decide)).trans (show _ = (.bool false : Value) from rfl); clear ht ho; simp only [execOp, e15]; go_simp; try rfl)
            · (refine OpH.rdg rfl 4 16 false rfl rfl (by decide) (fun _ _ _ => rfl) (fun ρ us w6 ho ht hc hl hsrc hW => ?_); have e4 := (ho 4 rfl).trans (show _ = (.pointer (some ⟨g4, 0, none⟩) : Value) from rfl); clear ht ho; simp only [execOp, e4]; go_simp; try rfl)
            · (refine OpH.rdg rfl 4 16 false rfl rfl (by decide) (fun _ _ _ => rfl) (fun ρ us w6 ho ht hc hl hsrc hW => ?_); have e17 := (ht 17 (by decide)).trans (show _ = (.pointer (some ⟨g4, 0, none⟩) : Value) from rfl); have z := ROW4.out w6 hW.1; have z0 := z.1; have z1 := z.2; clear ht ho; simp only [execOp, e17]; go_simp; try rfl)
            · (refine OpH.rdg rfl 4 16 false rfl rfl (by decide) (fun _ _ _ => rfl) (fun ρ us w6 ho ht hc hl hsrc hW => ?_); have e18 := (ht 18 (by decide)).trans (show _ = (.string x.name : Value) from rfl); clear ht ho; simp only [execOp]; go_simp; try rfl)
            · (refine OpH.rdg rfl 4 16 false rfl rfl (by decide) (fun _ _ _ => rfl) (fun ρ us w6 ho ht hc hl hsrc hW => ?_); have e19 := (ht 19 (by decide)).trans (show _ = (.int .i64 (x.name.size : Int) : Value) from rfl); clear ht ho; simp only [execOp, e19]; go_simp; try rfl)
            · (refine OpH.rd rfl rfl (fun ρ us w6 ho ht hc hl hsrc hW => ?_); have e16 := (ht 16 (by decide)).trans (show _ = (.bool false : Value) from rfl); have e20 := (ht 20 (by decide)).trans (show _ = (.bool true : Value) from rfl); clear ht ho; simp only [execOp, e16, e20]; go_simp; try rfl)
            · (refine OpH.rd rfl rfl (fun ρ us w6 ho ht hc hl hsrc hW => ?_); have e21 := (ht 21 (by decide)).trans (show _ = (.bool true : Value) from rfl); clear ht ho; simp only [execOp, e21]; go_simp; try rfl)
            · (exact OpH.rdn rfl 10 22 false rfl rfl (by decide) (fun _ _ _ => rfl) (fun _ => rfl))
            · (exact OpH.rdn rfl 10 22 false rfl rfl (by decide) (fun _ _ _ => rfl) (fun _ => rfl))
            · (exact OpH.rdn rfl 10 22 false rfl rfl (by decide) (fun _ _ _ => rfl) (fun _ => rfl))
            · (exact OpH.rdn rfl 10 22 false rfl rfl (by decide) (fun _ _ _ => rfl) (fun _ => rfl))
            · (refine OpH.rd rfl rfl (fun ρ us w6 ho ht hc hl hsrc hW => ?_); have e22 := (ht 22 (by decide)).trans (show _ = (.bool true : Value) from rfl); have e26 := (ht 26 (by decide)).trans (show _ = (undef : Value) from rfl); clear ht ho; simp only [execOp, e22, e26]; go_simp; try rfl)
            · (refine OpH.rd rfl rfl (fun ρ us w6 ho ht hc hl hsrc hW => ?_); have e27 := (ht 27 (by decide)).trans (show _ = (.bool true : Value) from rfl); clear ht ho; simp only [execOp, e27]; go_simp; try rfl)
            · (exact OpH.rdn rfl 16 28 false rfl rfl (by decide) (fun _ _ _ => rfl) (fun _ => rfl))
            · (exact OpH.rdn rfl 16 28 false rfl rfl (by decide) (fun _ _ _ => rfl) (fun _ => rfl))
            · (exact OpH.rdn rfl 16 28 false rfl rfl (by decide) (fun _ _ _ => rfl) (fun _ => rfl))
            · (exact OpH.rdu rfl 19 31 true rfl rfl (by decide) (fun _ _ _ => rfl) (fun _ => rfl))
            · (exact OpH.rdu rfl 19 31 true rfl rfl (by decide) (fun _ _ _ => rfl) (fun _ => rfl))
            · (exact OpH.rdu rfl 19 31 true rfl rfl (by decide) (fun _ _ _ => rfl) (fun _ => rfl))
            · (exact OpH.rdu rfl 19 31 true rfl rfl (by decide) (fun _ _ _ => rfl) (fun _ => rfl))
            · (exact OpH.rdu rfl 19 31 true rfl rfl (by decide) (fun _ _ _ => rfl) (fun _ => rfl))
            · (exact OpH.rdu rfl 19 31 true rfl rfl (by decide) (fun _ _ _ => rfl) (fun _ => rfl))
            · (exact OpH.rdu rfl 19 31 true rfl rfl (by decide) (fun _ _ _ => rfl) (fun _ => rfl))
            · (exact OpH.rdu rfl 19 31 true rfl rfl (by decide) (fun _ _ _ => rfl) (fun _ => rfl))
            · (exact OpH.rdu rfl 19 31 true rfl rfl (by decide) (fun _ _ _ => rfl) (fun _ => rfl))
            · (exact OpH.rdn rfl 16 28 false rfl rfl (by decide) (fun _ _ _ => rfl) (fun _ => rfl))
            · (refine OpH.rd rfl rfl (fun ρ us w6 ho ht hc hl hsrc hW => ?_); have e28 := (ht 28 (by decide)).trans (show _ = (.bool true : Value) from rfl); have e41 := (ht 41 (by decide)).trans (show _ = (undef : Value) from rfl); clear ht ho; simp only [execOp, e28, e41]; go_simp; try rfl)
            -- TSAF
            · intro us w9 hmem hW
              simp only [putAll, List.map_cons, List.map_nil, List.foldl_cons, List.foldl_nil, Act.put, List.setIfInBounds_toArray, List.set_cons_succ, List.set_cons_zero]
              generalize hsv : slotAt _ _ us = sv
              have hq : sv 42 = (.bool true : Value) := by rw [← hsv]; rfl
              rw [hq]
              have HB9 := Lib.hid hW.1
              clear hsv hq hmem hW
              go_wp2
              go_meet
              case rel => exact ⟨by rw [HAX.out]; rfl, HB9⟩
          · by_cases h3 : (x.digest.size : Int) = 32
            · have h3' : ((x.digest.size : Int) != 32) = false := by simp [h3]
              have hA1 : tagAt xs k = (decide (k = 0) || strLt y x.name) := by rw [HAT.out, decide_eq_true (by omega)]; rfl
              clear HAT h3
              by_cases h4 : k = 0
              · have HAX : Hid (tagAt xs k = true) := Lib.hid (by rw [hA1, h4]; rfl)
                have h4' : ¬ 0 < (k : Int) := by omega
                clear hp2 hA1 h4
                go_wp2_with fail
                refine region_free (by kernel_rfl) (by kernel_rfl) 47 rfl [12, 13, 14, 15, 16, 17, 18, 19, 20, 21, 22, 23, 24, 25, 26, 27, 28, 29, 30, 31, 32, 33, 34, 35, 36, 37, 38, 39, 40, 41, 42] [] []
                  [(12, [], fun _ => .pointer (some ⟨g4, 0, none⟩)), (13, [], fun _ => .string x.name), (14, [], fun _ => .int .i64 (x.name.size : Int)), (15, [], fun _ => .bool false), (16, [], fun _ => .bool false), (17, [], fun _ => .pointer (some ⟨g4, 0, none⟩)), (18, [], fun _ => .string x.name), (19, [], fun _ => .int .i64 (x.name.size : Int)), (20, [], fun _ => .bool false), (21, [], fun _ => .bool false), (22, [], fun _ => .bool false), (23, [], fun _ => .pointer (some ⟨g4, 1, none⟩)), (24, [], fun _ => .string x.digest), (25, [], fun _ => .int .i64 (x.digest.size : Int)), (26, [], fun _ => .bool false), (27, [], fun _ => .bool false), (28, [], fun _ => .bool false), (29, [], fun _ => .int .i64 (k : Int)), (30, [], fun _ => .bool false), (31, [], fun _ => .bool false), (32, [], fun _ => undef), (33, [], fun _ => undef), (34, [], fun _ => undef), (35, [], fun _ => undef), (36, [], fun _ => undef), (37, [], fun _ => undef), (38, [], fun _ => undef), (39, [], fun _ => undef), (40, [], fun _ => undef), (41, [], fun _ => .bool false), (42, [], fun _ => .bool false)]
                  [] [] [[], [12], [13], [14], [15], [16], [17, 16], [18, 16], [19, 16], [16, 20], [21], [22], [23, 22], [24, 22], [25, 22], [22, 26], [27], [28], [29, 28], [30, 28], [31], [32, 31], [31], [31], [35, 31], [34, 36, 31], [37, 31], [38, 31], [33, 39, 31], [31, 40, 28], [28, 41]]
                  (WdB w4 (fun _ _ _ => True)) (by kernel_rfl) .init ⟨?_, ?_, ?_, ?_, ?_, ?_, ?_, ?_, ?_, ?_, ?_, ?_, ?_, ?_, ?_, ?_, ?_, ?_, ?_, ?_, ?_, ?_, ?_, ?_, ?_, ?_, ?_, ?_, ?_, ?_, ?_, trivial⟩ ?_
                -- FAST31 cdot
                · (refine OpH.rd rfl rfl (fun ρ us w6 ho ht hc hl hsrc hW => ?_); have e4 := (ho 4 rfl).trans (show _ = (.pointer (some ⟨g4, 0, none⟩) : Value) from rfl); clear ht ho; simp only [execOp, e4]; go_simp; try rfl)
                · (refine OpH.rd rfl rfl (fun ρ us w6 ho ht hc hl hsrc hW => ?_); have e12 := (ht 12 (by decide)).trans (show _ = (.pointer (some ⟨g4, 0, none⟩) : Value) from rfl); have z := ROW4.out w6 hW.1; have z0 := z.1; have z1 := z.2; clear ht ho; simp only [execOp, e12]; go_simp; try rfl)
                · (refine OpH.rd rfl rfl (fun ρ us w6 ho ht hc hl hsrc hW => ?_); have e13 := (ht 13 (by decide)).trans (show _ = (.string x.name : Value) from rfl); clear ht ho; simp only [execOp]; go_simp; try rfl)
                · (refine OpH.rd rfl rfl (fun ρ us w6 ho ht hc hl hsrc hW => ?_); have e14 := (ht 14 (by decide)).trans (show _ = (.int .i64 (x.name.size : Int) : Value) from rfl); clear ht ho; simp only [execOp, e14]; go_simp; exact congrArg Value.bool (decide_eq_false (by omega)))
                · (refine OpH.rd rfl rfl (fun ρ us w6 ho ht hc hl hsrc hW => ?_); have e15 := (ht 15 (by decide)).trans (show _ = (.bool false : Value) from rfl); clear ht ho; simp only [execOp, e15]; go_simp; try rfl)
                · (refine OpH.rdg rfl 4 16 false rfl rfl (by decide) (fun _ _ _ => rfl) (fun ρ us w6 ho ht hc hl hsrc hW => ?_); have e4 := (ho 4 rfl).trans (show _ = (.pointer (some ⟨g4, 0, none⟩) : Value) from rfl); clear ht ho; simp only [execOp, e4]; go_simp; try rfl)
                · (refine OpH.rdg rfl 4 16 false rfl rfl (by decide) (fun _ _ _ => rfl) (fun ρ us w6 ho ht hc hl hsrc hW => ?_); have e17 := (ht 17 (by decide)).trans (show _ = (.pointer (some ⟨g4, 0, none⟩) : Value) from rfl); have z := ROW4.out w6 hW.1; have z0 := z.1; have z1 := z.2; clear ht ho; simp only [execOp, e17]; go_simp; try rfl)
                · (refine OpH.rdg rfl 4 16 false rfl rfl (by decide) (fun _ _ _ => rfl) (fun ρ us w6 ho ht hc hl hsrc hW => ?_); have e18 := (ht 18 (by decide)).trans (show _ = (.string x.name : Value) from rfl); clear ht ho; simp only [execOp]; go_simp; try rfl)
                · (refine OpH.rdg rfl 4 16 false rfl rfl (by decide) (fun _ _ _ => rfl) (fun ρ us w6 ho ht hc hl hsrc hW => ?_); have e19 := (ht 19 (by decide)).trans (show _ = (.int .i64 (x.name.size : Int) : Value) from rfl); clear ht ho; simp only [execOp, e19]; go_simp; exact congrArg Value.bool (decide_eq_false (by omega)))
                · (refine OpH.rd rfl rfl (fun ρ us w6 ho ht hc hl hsrc hW => ?_); have e16 := (ht 16 (by decide)).trans (show _ = (.bool false : Value) from rfl); have e20 := (ht 20 (by decide)).trans (show _ = (.bool false : Value) from rfl); clear ht ho; simp only [execOp, e16, e20]; go_simp; try rfl)
                · (refine OpH.rd rfl rfl (fun ρ us w6 ho ht hc hl hsrc hW => ?_); have e21 := (ht 21 (by decide)).trans (show _ = (.bool false : Value) from rfl); clear ht ho; simp only [execOp, e21]; go_simp; try rfl)
                · (refine OpH.rdg rfl 10 22 false rfl rfl (by decide) (fun _ _ _ => rfl) (fun ρ us w6 ho ht hc hl hsrc hW => ?_); have e4 := (ho 4 rfl).trans (show _ = (.pointer (some ⟨g4, 0, none⟩) : Value) from rfl); clear ht ho; simp only [execOp, e4]; go_simp; try rfl)
                · (refine OpH.rdg rfl 10 22 false rfl rfl (by decide) (fun _ _ _ => rfl) (fun ρ us w6 ho ht hc hl hsrc hW => ?_); have e23 := (ht 23 (by decide)).trans (show _ = (.pointer (some ⟨g4, 1, none⟩) : Value) from rfl); have z := ROW4.out w6 hW.1; have z0 := z.1; have z1 := z.2; clear ht ho; simp only [execOp, e23]; go_simp; try rfl)
                · (refine OpH.rdg rfl 10 22 false rfl rfl (by decide) (fun _ _ _ => rfl) (fun ρ us w6 ho ht hc hl hsrc hW => ?_); have e24 := (ht 24 (by decide)).trans (show _ = (.string x.digest : Value) from rfl); clear ht ho; simp only [execOp]; go_simp; try rfl)
                · (refine OpH.rdg rfl 10 22 false rfl rfl (by decide) (fun _ _ _ => rfl) (fun ρ us w6 ho ht hc hl hsrc hW => ?_); have e25 := (ht 25 (by decide)).trans (show _ = (.int .i64 (x.digest.size : Int) : Value) from rfl); clear ht ho; simp only [execOp, e25]; go_simp; try rfl)
                · (refine OpH.rd rfl rfl (fun ρ us w6 ho ht hc hl hsrc hW => ?_); have e22 := (ht 22 (by decide)).trans (show _ = (.bool false : Value) from rfl); have e26 := (ht 26 (by decide)).trans (show _ = (.bool false : Value) from rfl); clear ht ho; simp only [execOp, e22, e26]; go_simp; try rfl)
                · (refine OpH.rd rfl rfl (fun ρ us w6 ho ht hc hl hsrc hW => ?_); have e27 := (ht 27 (by decide)).trans (show _ = (.bool false : Value) from rfl); clear ht ho; simp only [execOp, e27]; go_simp; try rfl)
                · (refine OpH.rdg rfl 16 28 false rfl rfl (by decide) (fun _ _ _ => rfl) (fun ρ us w6 ho ht hc hl hsrc hW => ?_); have e3 := (ho 3 rfl).trans (show _ = (.int .i64 (k : Int) : Value) from rfl); clear ht ho; simp only [execOp, e3]; go_simp; try rfl)
                · (refine OpH.rdg rfl 16 28 false rfl rfl (by decide) (fun _ _ _ => rfl) (fun ρ us w6 ho ht hc hl hsrc hW => ?_); have e29 := (ht 29 (by decide)).trans (show _ = (.int .i64 (k : Int) : Value) from rfl); clear ht ho; simp only [execOp, e29]; go_simp; exact congrArg Value.bool (decide_eq_false (by omega)))
                · (refine OpH.rdg rfl 16 28 false rfl rfl (by decide) (fun _ _ _ => rfl) (fun ρ us w6 ho ht hc hl hsrc hW => ?_); have e30 := (ht 30 (by decide)).trans (show _ = (.bool false : Value) from rfl); clear ht ho; simp only [execOp, e30]; go_simp; try rfl)
                · (exact OpH.rdn rfl 19 31 true rfl rfl (by decide) (fun _ _ _ => rfl) (fun _ => rfl))
                · (exact OpH.rdn rfl 19 31 true rfl rfl (by decide) (fun _ _ _ => rfl) (fun _ => rfl))
                · (exact OpH.rdn rfl 19 31 true rfl rfl (by decide) (fun _ _ _ => rfl) (fun _ => rfl))
                · (exact OpH.rdn rfl 19 31 true rfl rfl (by decide) (fun _ _ _ => rfl) (fun _ => rfl))
                · (exact OpH.rdn rfl 19 31 true rfl rfl (by decide) (fun _ _ _ => rfl) (fun _ => rfl))
                · (exact OpH.rdn rfl 19 31 true rfl rfl (by decide) (fun _ _ _ => rfl) (fun _ => rfl))
                · (exact OpH.rdn rfl 19 31 true rfl rfl (by decide) (fun _ _ _ => rfl) (fun _ => rfl))
                · (exact OpH.rdn rfl 19 31 true rfl rfl (by decide) (fun _ _ _ => rfl) (fun _ => rfl))
                · (exact OpH.rdn rfl 19 31 true rfl rfl (by decide) (fun _ _ _ => rfl) (fun _ => rfl))
                · (refine OpH.rdg rfl 16 28 false rfl rfl (by decide) (fun _ _ _ => rfl) (fun ρ us w6 ho ht hc hl hsrc hW => ?_); have e31 := (ht 31 (by decide)).trans (show _ = (.bool false : Value) from rfl); have e40 := (ht 40 (by decide)).trans (show _ = (undef : Value) from rfl); clear ht ho; simp only [execOp, e31, e40]; go_simp; try rfl)
                · (refine OpH.rd rfl rfl (fun ρ us w6 ho ht hc hl hsrc hW => ?_); have e28 := (ht 28 (by decide)).trans (show _ = (.bool false : Value) from rfl); have e41 := (ht 41 (by decide)).trans (show _ = (.bool false : Value) from rfl); clear ht ho; simp only [execOp, e28, e41]; go_simp; try rfl)
                -- TSAF
                · intro us w9 hmem hW
                  simp only [putAll, List.map_cons, List.map_nil, List.foldl_cons, List.foldl_nil, Act.put, List.setIfInBounds_toArray, List.set_cons_succ, List.set_cons_zero]
                  generalize hsv : slotAt _ _ us = sv
                  have hq : sv 42 = (.bool false : Value) := by rw [← hsv]; rfl
                  rw [hq]
                  have HB9 := Lib.hid hW.1
                  clear hsv hq hmem hW
                  go_wp2
                  go_meet
                  case rel => exact ⟨by rw [HAX.out]; rfl, HB9⟩
              · have h4' : 0 < (k : Int) := by omega
                have hc := hp2 (by omega)
                have e1 : (k : Int) - 1 = ((k - 1 : Nat) : Int) := by omega
                have hA2 : tagAt xs k = strLt y x.name := by rw [hA1, decide_eq_false h4]; rfl
                have hle := str_leq y x.name
                generalize strLt y x.name = sl at *
                have HPC := Lib.hid (fun V (hV : Below w4.heap.size w4 V) => (hV.cell (p := ⟨b, off + (k - 1) * 2, none⟩) hbl2).trans hc)
                clear hp2 hA1 h4 hc
                cases sl with
                | true =>
                  have HAX := Lib.hid hA2; clear hA2
                  rw [show (!true) = false from rfl] at hle
                  go_wp2_with fail
                  refine region_free (by kernel_rfl) (by kernel_rfl) 47 rfl [12, 13, 14, 15, 16, 17, 18, 19, 20, 21, 22, 23, 24, 25, 26, 27, 28, 29, 30, 31, 32, 33, 34, 35, 36, 37, 38, 39, 40, 41, 42] [] []
                    [(12, [], fun _ => .pointer (some ⟨g4, 0, none⟩)), (13, [], fun _ => .string x.name), (14, [], fun _ => .int .i64 (x.name.size : Int)), (15, [], fun _ => .bool false), (16, [], fun _ => .bool false), (17, [], fun _ => .pointer (some ⟨g4, 0, none⟩)), (18, [], fun _ => .string x.name), (19, [], fun _ => .int .i64 (x.name.size : Int)), (20, [], fun _ => .bool false), (21, [], fun _ => .bool false), (22, [], fun _ => .bool false), (23, [], fun _ => .pointer (some ⟨g4, 1, none⟩)), (24, [], fun _ => .string x.digest), (25, [], fun _ => .int .i64 (x.digest.size : Int)), (26, [], fun _ => .bool false), (27, [], fun _ => .bool false), (28, [], fun _ => .bool false), (29, [], fun _ => .int .i64 (k : Int)), (30, [], fun _ => .bool true), (31, [], fun _ => .bool true), (32, [], fun _ => .pointer (some ⟨g4, 0, none⟩)), (33, [], fun _ => .string x.name), (34, [], fun _ => .slice (some ⟨b, off, none⟩) n c), (35, [], fun _ => .int .i64 (k : Int)), (36, [], fun _ => .int .i64 (((k - 1 : Nat) : Int))), (37, [], fun _ => .pointer (some ⟨b, off + (k - 1) * 2, none⟩)), (38, [], fun _ => .pointer (some ⟨b, off + (k - 1) * 2, none⟩)), (39, [], fun _ => .string y), (40, [], fun _ => .bool false), (41, [], fun _ => .bool false), (42, [], fun _ => .bool false)]
                    [] [] [[], [12], [13], [14], [15], [16], [17, 16], [18, 16], [19, 16], [16, 20], [21], [22], [23, 22], [24, 22], [25, 22], [22, 26], [27], [28], [29, 28], [30, 28], [31], [32, 31], [31], [31], [35, 31], [34, 36, 31], [37, 31], [38, 31], [33, 39, 31], [31, 40, 28], [28, 41]]
                    (WdB w4 (fun _ _ _ => True)) (by kernel_rfl) .init ⟨?_, ?_, ?_, ?_, ?_, ?_, ?_, ?_, ?_, ?_, ?_, ?_, ?_, ?_, ?_, ?_, ?_, ?_, ?_, ?_, ?_, ?_, ?_, ?_, ?_, ?_, ?_, ?_, ?_, ?_, ?_, trivial⟩ ?_
                  -- FAST31 cdot
                  · (refine OpH.rd rfl rfl (fun ρ us w6 ho ht hc hl hsrc hW => ?_); have e4 := (ho 4 rfl).trans (show _ = (.pointer (some ⟨g4, 0, none⟩) : Value) from rfl); clear ht ho; simp only [execOp, e4]; go_simp; try rfl)
                  · (refine OpH.rd rfl rfl (fun ρ us w6 ho ht hc hl hsrc hW => ?_); have e12 := (ht 12 (by decide)).trans (show _ = (.pointer (some ⟨g4, 0, none⟩) : Value) from rfl); have z := ROW4.out w6 hW.1; have z0 := z.1; have z1 := z.2; clear ht ho; simp only [execOp, e12]; go_simp; try rfl)
                  · (refine OpH.rd rfl rfl (fun ρ us w6 ho ht hc hl hsrc hW => ?_); have e13 := (ht 13 (by decide)).trans (show _ = (.string x.name : Value) from rfl); clear ht ho; simp only [execOp]; go_simp; try rfl)
                  · (refine OpH.rd rfl rfl (fun ρ us w6 ho ht hc hl hsrc hW => ?_); have e14 := (ht 14 (by decide)).trans (show _ = (.int .i64 (x.name.size : Int) : Value) from rfl); clear ht ho; simp only [execOp, e14]; go_simp; exact congrArg Value.bool (decide_eq_false (by omega)))
                  · (refine OpH.rd rfl rfl (fun ρ us w6 ho ht hc hl hsrc hW => ?_); have e15 := (ht 15 (by decide)).trans (show _ = (.bool false : Value) from rfl); clear ht ho; simp only [execOp, e15]; go_simp; try rfl)
                  · (refine OpH.rdg rfl 4 16 false rfl rfl (by decide) (fun _ _ _ => rfl) (fun ρ us w6 ho ht hc hl hsrc hW => ?_); have e4 := (ho 4 rfl).trans (show _ = (.pointer (some ⟨g4, 0, none⟩) : Value) from rfl); clear ht ho; simp only [execOp, e4]; go_simp; try rfl)
                  · (refine OpH.rdg rfl 4 16 false rfl rfl (by decide) (fun _ _ _ => rfl) (fun ρ us w6 ho ht hc hl hsrc hW => ?_); have e17 := (ht 17 (by decide)).trans (show _ = (.pointer (some ⟨g4, 0, none⟩) : Value) from rfl); have z := ROW4.out w6 hW.1; have z0 := z.1; have z1 := z.2; clear ht ho; simp only [execOp, e17]; go_simp; try rfl)
                  · (refine OpH.rdg rfl 4 16 false rfl rfl (by decide) (fun _ _ _ => rfl) (fun ρ us w6 ho ht hc hl hsrc hW => ?_); have e18 := (ht 18 (by decide)).trans (show _ = (.string x.name : Value) from rfl); clear ht ho; simp only [execOp]; go_simp; try rfl)
                  · (refine OpH.rdg rfl 4 16 false rfl rfl (by decide) (fun _ _ _ => rfl) (fun ρ us w6 ho ht hc hl hsrc hW => ?_); have e19 := (ht 19 (by decide)).trans (show _ = (.int .i64 (x.name.size : Int) : Value) from rfl); clear ht ho; simp only [execOp, e19]; go_simp; exact congrArg Value.bool (decide_eq_false (by omega)))
                  · (refine OpH.rd rfl rfl (fun ρ us w6 ho ht hc hl hsrc hW => ?_); have e16 := (ht 16 (by decide)).trans (show _ = (.bool false : Value) from rfl); have e20 := (ht 20 (by decide)).trans (show _ = (.bool false : Value) from rfl); clear ht ho; simp only [execOp, e16, e20]; go_simp; try rfl)
                  · (refine OpH.rd rfl rfl (fun ρ us w6 ho ht hc hl hsrc hW => ?_); have e21 := (ht 21 (by decide)).trans (show _ = (.bool false : Value) from rfl); clear ht ho; simp only [execOp, e21]; go_simp; try rfl)
                  · (refine OpH.rdg rfl 10 22 false rfl rfl (by decide) (fun _ _ _ => rfl) (fun ρ us w6 ho ht hc hl hsrc hW => ?_); have e4 := (ho 4 rfl).trans (show _ = (.pointer (some ⟨g4, 0, none⟩) : Value) from rfl); clear ht ho; simp only [execOp, e4]; go_simp; try rfl)
                  · (refine OpH.rdg rfl 10 22 false rfl rfl (by decide) (fun _ _ _ => rfl) (fun ρ us w6 ho ht hc hl hsrc hW => ?_); have e23 := (ht 23 (by decide)).trans (show _ = (.pointer (some ⟨g4, 1, none⟩) : Value) from rfl); have z := ROW4.out w6 hW.1; have z0 := z.1; have z1 := z.2; clear ht ho; simp only [execOp, e23]; go_simp; try rfl)
                  · (refine OpH.rdg rfl 10 22 false rfl rfl (by decide) (fun _ _ _ => rfl) (fun ρ us w6 ho ht hc hl hsrc hW => ?_); have e24 := (ht 24 (by decide)).trans (show _ = (.string x.digest : Value) from rfl); clear ht ho; simp only [execOp]; go_simp; try rfl)
                  · (refine OpH.rdg rfl 10 22 false rfl rfl (by decide) (fun _ _ _ => rfl) (fun ρ us w6 ho ht hc hl hsrc hW => ?_); have e25 := (ht 25 (by decide)).trans (show _ = (.int .i64 (x.digest.size : Int) : Value) from rfl); clear ht ho; simp only [execOp, e25]; go_simp; try rfl)
                  · (refine OpH.rd rfl rfl (fun ρ us w6 ho ht hc hl hsrc hW => ?_); have e22 := (ht 22 (by decide)).trans (show _ = (.bool false : Value) from rfl); have e26 := (ht 26 (by decide)).trans (show _ = (.bool false : Value) from rfl); clear ht ho; simp only [execOp, e22, e26]; go_simp; try rfl)
                  · (refine OpH.rd rfl rfl (fun ρ us w6 ho ht hc hl hsrc hW => ?_); have e27 := (ht 27 (by decide)).trans (show _ = (.bool false : Value) from rfl); clear ht ho; simp only [execOp, e27]; go_simp; try rfl)
                  · (refine OpH.rdg rfl 16 28 false rfl rfl (by decide) (fun _ _ _ => rfl) (fun ρ us w6 ho ht hc hl hsrc hW => ?_); have e3 := (ho 3 rfl).trans (show _ = (.int .i64 (k : Int) : Value) from rfl); clear ht ho; simp only [execOp, e3]; go_simp; try rfl)
                  · (refine OpH.rdg rfl 16 28 false rfl rfl (by decide) (fun _ _ _ => rfl) (fun ρ us w6 ho ht hc hl hsrc hW => ?_); have e29 := (ht 29 (by decide)).trans (show _ = (.int .i64 (k : Int) : Value) from rfl); clear ht ho; simp only [execOp, e29]; go_simp; exact congrArg Value.bool (decide_eq_true (by omega)))
                  · (refine OpH.rdg rfl 16 28 false rfl rfl (by decide) (fun _ _ _ => rfl) (fun ρ us w6 ho ht hc hl hsrc hW => ?_); have e30 := (ht 30 (by decide)).trans (show _ = (.bool true : Value) from rfl); clear ht ho; simp only [execOp, e30]; go_simp; try rfl)
                  · (refine OpH.rdg rfl 19 31 true rfl rfl (by decide) (fun _ _ _ => rfl) (fun ρ us w6 ho ht hc hl hsrc hW => ?_); have e4 := (ho 4 rfl).trans (show _ = (.pointer (some ⟨g4, 0, none⟩) : Value) from rfl); clear ht ho; simp only [execOp, e4]; go_simp; try rfl)
                  · (refine OpH.rdg rfl 19 31 true rfl rfl (by decide) (fun _ _ _ => rfl) (fun ρ us w6 ho ht hc hl hsrc hW => ?_); have e32 := (ht 32 (by decide)).trans (show _ = (.pointer (some ⟨g4, 0, none⟩) : Value) from rfl); have z := ROW4.out w6 hW.1; have z0 := z.1; have z1 := z.2; clear ht ho; simp only [execOp, e32]; go_simp; try rfl)
                  · (refine OpH.rdg rfl 19 31 true rfl rfl (by decide) (fun _ _ _ => rfl) (fun ρ us w6 ho ht hc hl hsrc hW => ?_); have e0 := (ho 0 rfl).trans (show _ = (.slice (some ⟨b, off, none⟩) n c : Value) from rfl); clear ht ho; simp only [execOp, e0]; go_simp; try rfl)
                  · (refine OpH.rdg rfl 19 31 true rfl rfl (by decide) (fun _ _ _ => rfl) (fun ρ us w6 ho ht hc hl hsrc hW => ?_); have e3 := (ho 3 rfl).trans (show _ = (.int .i64 (k : Int) : Value) from rfl); clear ht ho; simp only [execOp, e3]; go_simp; try rfl)
                  · (refine OpH.rdg rfl 19 31 true rfl rfl (by decide) (fun _ _ _ => rfl) (fun ρ us w6 ho ht hc hl hsrc hW => ?_); have e35 := (ht 35 (by decide)).trans (show _ = (.int .i64 (k : Int) : Value) from rfl); clear ht ho; simp only [execOp, e35]; go_simp; rw [Go.IntWalk.i64_in _ (by omega)]; rfl)
                  · (refine OpH.rdg rfl 19 31 true rfl rfl (by decide) (fun _ _ _ => rfl) (fun ρ us w6 ho ht hc hl hsrc hW => ?_); have e34 := (ht 34 (by decide)).trans (show _ = (.slice (some ⟨b, off, none⟩) n c : Value) from rfl); have e36 := (ht 36 (by decide)).trans (show _ = (.int .i64 (((k - 1 : Nat) : Int)) : Value) from rfl); clear ht ho; simp only [execOp, e34, e36]; go_simp; rw [if_pos (by omega)]; rfl)
                  · (refine OpH.rdg rfl 19 31 true rfl rfl (by decide) (fun _ _ _ => rfl) (fun ρ us w6 ho ht hc hl hsrc hW => ?_); have e37 := (ht 37 (by decide)).trans (show _ = (.pointer (some ⟨b, off + (k - 1) * 2, none⟩) : Value) from rfl); clear ht ho; simp only [execOp, e37]; go_simp; try rfl)
                  · (refine OpH.rdg rfl 19 31 true rfl rfl (by decide) (fun _ _ _ => rfl) (fun ρ us w6 ho ht hc hl hsrc hW => ?_); have e38 := (ht 38 (by decide)).trans (show _ = (.pointer (some ⟨b, off + (k - 1) * 2, none⟩) : Value) from rfl); have z2 := HPC.out w6 hW.1; clear ht ho; simp only [execOp, e38]; go_simp; try rfl)
                  · (refine OpH.rdg rfl 19 31 true rfl rfl (by decide) (fun _ _ _ => rfl) (fun ρ us w6 ho ht hc hl hsrc hW => ?_); have e33 := (ht 33 (by decide)).trans (show _ = (.string x.name : Value) from rfl); have e39 := (ht 39 (by decide)).trans (show _ = (.string y : Value) from rfl); clear ht ho; simp only [execOp, e33, e39]; go_simp; rw [run_leq]; simp only [Result.andThen, hle]; rfl)
                  · (refine OpH.rdg rfl 16 28 false rfl rfl (by decide) (fun _ _ _ => rfl) (fun ρ us w6 ho ht hc hl hsrc hW => ?_); have e31 := (ht 31 (by decide)).trans (show _ = (.bool true : Value) from rfl); have e40 := (ht 40 (by decide)).trans (show _ = (.bool false : Value) from rfl); clear ht ho; simp only [execOp, e31, e40]; go_simp; try rfl)
                  · (refine OpH.rd rfl rfl (fun ρ us w6 ho ht hc hl hsrc hW => ?_); have e28 := (ht 28 (by decide)).trans (show _ = (.bool false : Value) from rfl); have e41 := (ht 41 (by decide)).trans (show _ = (.bool false : Value) from rfl); clear ht ho; simp only [execOp, e28, e41]; go_simp; try rfl)
                  -- TSAF
                  · intro us w9 hmem hW
                    simp only [putAll, List.map_cons, List.map_nil, List.foldl_cons, List.foldl_nil, Act.put, List.setIfInBounds_toArray, List.set_cons_succ, List.set_cons_zero]
                    generalize hsv : slotAt _ _ us = sv
                    have hq : sv 42 = (.bool false : Value) := by rw [← hsv]; rfl
                    rw [hq]
                    have HB9 := Lib.hid hW.1
                    clear hsv hq hmem hW
                    go_wp2
                    go_meet
                    case rel => exact ⟨by rw [HAX.out]; rfl, HB9⟩
                | false =>
                  have HAX := Lib.hid hA2; clear hA2
                  rw [show (!false) = true from rfl] at hle
                  go_wp2_with fail
                  refine region_free (by kernel_rfl) (by kernel_rfl) 47 rfl [12, 13, 14, 15, 16, 17, 18, 19, 20, 21, 22, 23, 24, 25, 26, 27, 28, 29, 30, 31, 32, 33, 34, 35, 36, 37, 38, 39, 40, 41, 42] [] []
                    [(12, [], fun _ => .pointer (some ⟨g4, 0, none⟩)), (13, [], fun _ => .string x.name), (14, [], fun _ => .int .i64 (x.name.size : Int)), (15, [], fun _ => .bool false), (16, [], fun _ => .bool false), (17, [], fun _ => .pointer (some ⟨g4, 0, none⟩)), (18, [], fun _ => .string x.name), (19, [], fun _ => .int .i64 (x.name.size : Int)), (20, [], fun _ => .bool false), (21, [], fun _ => .bool false), (22, [], fun _ => .bool false), (23, [], fun _ => .pointer (some ⟨g4, 1, none⟩)), (24, [], fun _ => .string x.digest), (25, [], fun _ => .int .i64 (x.digest.size : Int)), (26, [], fun _ => .bool false), (27, [], fun _ => .bool false), (28, [], fun _ => .bool false), (29, [], fun _ => .int .i64 (k : Int)), (30, [], fun _ => .bool true), (31, [], fun _ => .bool true), (32, [], fun _ => .pointer (some ⟨g4, 0, none⟩)), (33, [], fun _ => .string x.name), (34, [], fun _ => .slice (some ⟨b, off, none⟩) n c), (35, [], fun _ => .int .i64 (k : Int)), (36, [], fun _ => .int .i64 (((k - 1 : Nat) : Int))), (37, [], fun _ => .pointer (some ⟨b, off + (k - 1) * 2, none⟩)), (38, [], fun _ => .pointer (some ⟨b, off + (k - 1) * 2, none⟩)), (39, [], fun _ => .string y), (40, [], fun _ => .bool true), (41, [], fun _ => .bool true), (42, [], fun _ => .bool true)]
                    [] [] [[], [12], [13], [14], [15], [16], [17, 16], [18, 16], [19, 16], [16, 20], [21], [22], [23, 22], [24, 22], [25, 22], [22, 26], [27], [28], [29, 28], [30, 28], [31], [32, 31], [31], [31], [35, 31], [34, 36, 31], [37, 31], [38, 31], [33, 39, 31], [31, 40, 28], [28, 41]]
                    (WdB w4 (fun _ _ _ => True)) (by kernel_rfl) .init ⟨?_, ?_, ?_, ?_, ?_, ?_, ?_, ?_, ?_, ?_, ?_, ?_, ?_, ?_, ?_, ?_, ?_, ?_, ?_, ?_, ?_, ?_, ?_, ?_, ?_, ?_, ?_, ?_, ?_, ?_, ?_, trivial⟩ ?_
                  -- FAST31 cdot
                  · (refine OpH.rd rfl rfl (fun ρ us w6 ho ht hc hl hsrc hW => ?_); have e4 := (ho 4 rfl).trans (show _ = (.pointer (some ⟨g4, 0, none⟩) : Value) from rfl); clear ht ho; simp only [execOp, e4]; go_simp; try rfl)
                  · (refine OpH.rd rfl rfl (fun ρ us w6 ho ht hc hl hsrc hW => ?_); have e12 := (ht 12 (by decide)).trans (show _ = (.pointer (some ⟨g4, 0, none⟩) : Value) from rfl); have z := ROW4.out w6 hW.1; have z0 := z.1; have z1 := z.2; clear ht ho; simp only [execOp, e12]; go_simp; try rfl)
                  · (refine OpH.rd rfl rfl (fun ρ us w6 ho ht hc hl hsrc hW => ?_); have e13 := (ht 13 (by decide)).trans (show _ = (.string x.name : Value) from rfl); clear ht ho; simp only [execOp]; go_simp; try rfl)
                  · (refine OpH.rd rfl rfl (fun ρ us w6 ho ht hc hl hsrc hW => ?_); have e14 := (ht 14 (by decide)).trans (show _ = (.int .i64 (x.name.size : Int) : Value) from rfl); clear ht ho; simp only [execOp, e14]; go_simp; exact congrArg Value.bool (decide_eq_false (by omega)))
                  · (refine OpH.rd rfl rfl (fun ρ us w6 ho ht hc hl hsrc hW => ?_); have e15 := (ht 15 (by decide)).trans (show _ = (.bool false : Value) from rfl); clear ht ho; simp only [execOp, e15]; go_simp; try rfl)
                  · (refine OpH.rdg rfl 4 16 false rfl rfl (by decide) (fun _ _ _ => rfl) (fun ρ us w6 ho ht hc hl hsrc hW => ?_); have e4 := (ho 4 rfl).trans (show _ = (.pointer (some ⟨g4, 0, none⟩) : Value) from rfl); clear ht ho; simp only [execOp, e4]; go_simp; try rfl)
                  · (refine OpH.rdg rfl 4 16 false rfl rfl (by decide) (fun _ _ _ => rfl) (fun ρ us w6 ho ht hc hl hsrc hW => ?_); have e17 := (ht 17 (by decide)).trans (show _ = (.pointer (some ⟨g4, 0, none⟩) : Value) from rfl); have z := ROW4.out w6 hW.1; have z0 := z.1; have z1 := z.2; clear ht ho; simp only [execOp, e17]; go_simp; try rfl)
                  · (refine OpH.rdg rfl 4 16 false rfl rfl (by decide) (fun _ _ _ => rfl) (fun ρ us w6 ho ht hc hl hsrc hW => ?_); have e18 := (ht 18 (by decide)).trans (show _ = (.string x.name : Value) from rfl); clear ht ho; simp only [execOp]; go_simp; try rfl)
                  · (refine OpH.rdg rfl 4 16 false rfl rfl (by decide) (fun _ _ _ => rfl) (fun ρ us w6 ho ht hc hl hsrc hW => ?_); have e19 := (ht 19 (by decide)).trans (show _ = (.int .i64 (x.name.size : Int) : Value) from rfl); clear ht ho; simp only [execOp, e19]; go_simp; exact congrArg Value.bool (decide_eq_false (by omega)))
                  · (refine OpH.rd rfl rfl (fun ρ us w6 ho ht hc hl hsrc hW => ?_); have e16 := (ht 16 (by decide)).trans (show _ = (.bool false : Value) from rfl); have e20 := (ht 20 (by decide)).trans (show _ = (.bool false : Value) from rfl); clear ht ho; simp only [execOp, e16, e20]; go_simp; try rfl)
                  · (refine OpH.rd rfl rfl (fun ρ us w6 ho ht hc hl hsrc hW => ?_); have e21 := (ht 21 (by decide)).trans (show _ = (.bool false : Value) from rfl); clear ht ho; simp only [execOp, e21]; go_simp; try rfl)
                  · (refine OpH.rdg rfl 10 22 false rfl rfl (by decide) (fun _ _ _ => rfl) (fun ρ us w6 ho ht hc hl hsrc hW => ?_); have e4 := (ho 4 rfl).trans (show _ = (.pointer (some ⟨g4, 0, none⟩) : Value) from rfl); clear ht ho; simp only [execOp, e4]; go_simp; try rfl)
                  · (refine OpH.rdg rfl 10 22 false rfl rfl (by decide) (fun _ _ _ => rfl) (fun ρ us w6 ho ht hc hl hsrc hW => ?_); have e23 := (ht 23 (by decide)).trans (show _ = (.pointer (some ⟨g4, 1, none⟩) : Value) from rfl); have z := ROW4.out w6 hW.1; have z0 := z.1; have z1 := z.2; clear ht ho; simp only [execOp, e23]; go_simp; try rfl)
                  · (refine OpH.rdg rfl 10 22 false rfl rfl (by decide) (fun _ _ _ => rfl) (fun ρ us w6 ho ht hc hl hsrc hW => ?_); have e24 := (ht 24 (by decide)).trans (show _ = (.string x.digest : Value) from rfl); clear ht ho; simp only [execOp]; go_simp; try rfl)
                  · (refine OpH.rdg rfl 10 22 false rfl rfl (by decide) (fun _ _ _ => rfl) (fun ρ us w6 ho ht hc hl hsrc hW => ?_); have e25 := (ht 25 (by decide)).trans (show _ = (.int .i64 (x.digest.size : Int) : Value) from rfl); clear ht ho; simp only [execOp, e25]; go_simp; try rfl)
                  · (refine OpH.rd rfl rfl (fun ρ us w6 ho ht hc hl hsrc hW => ?_); have e22 := (ht 22 (by decide)).trans (show _ = (.bool false : Value) from rfl); have e26 := (ht 26 (by decide)).trans (show _ = (.bool false : Value) from rfl); clear ht ho; simp only [execOp, e22, e26]; go_simp; try rfl)
                  · (refine OpH.rd rfl rfl (fun ρ us w6 ho ht hc hl hsrc hW => ?_); have e27 := (ht 27 (by decide)).trans (show _ = (.bool false : Value) from rfl); clear ht ho; simp only [execOp, e27]; go_simp; try rfl)
                  · (refine OpH.rdg rfl 16 28 false rfl rfl (by decide) (fun _ _ _ => rfl) (fun ρ us w6 ho ht hc hl hsrc hW => ?_); have e3 := (ho 3 rfl).trans (show _ = (.int .i64 (k : Int) : Value) from rfl); clear ht ho; simp only [execOp, e3]; go_simp; try rfl)
                  · (refine OpH.rdg rfl 16 28 false rfl rfl (by decide) (fun _ _ _ => rfl) (fun ρ us w6 ho ht hc hl hsrc hW => ?_); have e29 := (ht 29 (by decide)).trans (show _ = (.int .i64 (k : Int) : Value) from rfl); clear ht ho; simp only [execOp, e29]; go_simp; exact congrArg Value.bool (decide_eq_true (by omega)))
                  · (refine OpH.rdg rfl 16 28 false rfl rfl (by decide) (fun _ _ _ => rfl) (fun ρ us w6 ho ht hc hl hsrc hW => ?_); have e30 := (ht 30 (by decide)).trans (show _ = (.bool true : Value) from rfl); clear ht ho; simp only [execOp, e30]; go_simp; try rfl)
                  · (refine OpH.rdg rfl 19 31 true rfl rfl (by decide) (fun _ _ _ => rfl) (fun ρ us w6 ho ht hc hl hsrc hW => ?_); have e4 := (ho 4 rfl).trans (show _ = (.pointer (some ⟨g4, 0, none⟩) : Value) from rfl); clear ht ho; simp only [execOp, e4]; go_simp; try rfl)
                  · (refine OpH.rdg rfl 19 31 true rfl rfl (by decide) (fun _ _ _ => rfl) (fun ρ us w6 ho ht hc hl hsrc hW => ?_); have e32 := (ht 32 (by decide)).trans (show _ = (.pointer (some ⟨g4, 0, none⟩) : Value) from rfl); have z := ROW4.out w6 hW.1; have z0 := z.1; have z1 := z.2; clear ht ho; simp only [execOp, e32]; go_simp; try rfl)
                  · (refine OpH.rdg rfl 19 31 true rfl rfl (by decide) (fun _ _ _ => rfl) (fun ρ us w6 ho ht hc hl hsrc hW => ?_); have e0 := (ho 0 rfl).trans (show _ = (.slice (some ⟨b, off, none⟩) n c : Value) from rfl); clear ht ho; simp only [execOp, e0]; go_simp; try rfl)
                  · (refine OpH.rdg rfl 19 31 true rfl rfl (by decide) (fun _ _ _ => rfl) (fun ρ us w6 ho ht hc hl hsrc hW => ?_); have e3 := (ho 3 rfl).trans (show _ = (.int .i64 (k : Int) : Value) from rfl); clear ht ho; simp only [execOp, e3]; go_simp; try rfl)
                  · (refine OpH.rdg rfl 19 31 true rfl rfl (by decide) (fun _ _ _ => rfl) (fun ρ us w6 ho ht hc hl hsrc hW => ?_); have e35 := (ht 35 (by decide)).trans (show _ = (.int .i64 (k : Int) : Value) from rfl); clear ht ho; simp only [execOp, e35]; go_simp; rw [Go.IntWalk.i64_in _ (by omega)]; rfl)
                  · (refine OpH.rdg rfl 19 31 true rfl rfl (by decide) (fun _ _ _ => rfl) (fun ρ us w6 ho ht hc hl hsrc hW => ?_); have e34 := (ht 34 (by decide)).trans (show _ = (.slice (some ⟨b, off, none⟩) n c : Value) from rfl); have e36 := (ht 36 (by decide)).trans (show _ = (.int .i64 (((k - 1 : Nat) : Int)) : Value) from rfl); clear ht ho; simp only [execOp, e34, e36]; go_simp; rw [if_pos (by omega)]; rfl)
                  · (refine OpH.rdg rfl 19 31 true rfl rfl (by decide) (fun _ _ _ => rfl) (fun ρ us w6 ho ht hc hl hsrc hW => ?_); have e37 := (ht 37 (by decide)).trans (show _ = (.pointer (some ⟨b, off + (k - 1) * 2, none⟩) : Value) from rfl); clear ht ho; simp only [execOp, e37]; go_simp; try rfl)
                  · (refine OpH.rdg rfl 19 31 true rfl rfl (by decide) (fun _ _ _ => rfl) (fun ρ us w6 ho ht hc hl hsrc hW => ?_); have e38 := (ht 38 (by decide)).trans (show _ = (.pointer (some ⟨b, off + (k - 1) * 2, none⟩) : Value) from rfl); have z2 := HPC.out w6 hW.1; clear ht ho; simp only [execOp, e38]; go_simp; try rfl)
                  · (refine OpH.rdg rfl 19 31 true rfl rfl (by decide) (fun _ _ _ => rfl) (fun ρ us w6 ho ht hc hl hsrc hW => ?_); have e33 := (ht 33 (by decide)).trans (show _ = (.string x.name : Value) from rfl); have e39 := (ht 39 (by decide)).trans (show _ = (.string y : Value) from rfl); clear ht ho; simp only [execOp, e33, e39]; go_simp; rw [run_leq]; simp only [Result.andThen, hle]; rfl)
                  · (refine OpH.rdg rfl 16 28 false rfl rfl (by decide) (fun _ _ _ => rfl) (fun ρ us w6 ho ht hc hl hsrc hW => ?_); have e31 := (ht 31 (by decide)).trans (show _ = (.bool true : Value) from rfl); have e40 := (ht 40 (by decide)).trans (show _ = (.bool true : Value) from rfl); clear ht ho; simp only [execOp, e31, e40]; go_simp; try rfl)
                  · (refine OpH.rd rfl rfl (fun ρ us w6 ho ht hc hl hsrc hW => ?_); have e28 := (ht 28 (by decide)).trans (show _ = (.bool false : Value) from rfl); have e41 := (ht 41 (by decide)).trans (show _ = (.bool true : Value) from rfl); clear ht ho; simp only [execOp, e28, e41]; go_simp; try rfl)
                  -- TSAF
                  · intro us w9 hmem hW
                    simp only [putAll, List.map_cons, List.map_nil, List.foldl_cons, List.foldl_nil, Act.put, List.setIfInBounds_toArray, List.set_cons_succ, List.set_cons_zero]
                    generalize hsv : slotAt _ _ us = sv
                    have hq : sv 42 = (.bool true : Value) := by rw [← hsv]; rfl
                    rw [hq]
                    have HB9 := Lib.hid hW.1
                    clear hsv hq hmem hW
                    go_wp2
                    go_meet
                    case rel => exact ⟨by rw [HAX.out]; rfl, HB9⟩
            · have h3' : ((x.digest.size : Int) != 32) = true := by simp [h3]
              have HAX : Hid (tagAt xs k = false) := Lib.hid (by rw [HAT.out, decide_eq_false (by omega)]; rfl)
              clear HAT hp2 h3
              go_wp2_with fail
              refine region_free (by kernel_rfl) (by kernel_rfl) 47 rfl [12, 13, 14, 15, 16, 17, 18, 19, 20, 21, 22, 23, 24, 25, 26, 27, 28, 29, 30, 31, 32, 33, 34, 35, 36, 37, 38, 39, 40, 41, 42] [] []
                [(12, [], fun _ => .pointer (some ⟨g4, 0, none⟩)), (13, [], fun _ => .string x.name), (14, [], fun _ => .int .i64 (x.name.size : Int)), (15, [], fun _ => .bool false), (16, [], fun _ => .bool false), (17, [], fun _ => .pointer (some ⟨g4, 0, none⟩)), (18, [], fun _ => .string x.name), (19, [], fun _ => .int .i64 (x.name.size : Int)), (20, [], fun _ => .bool false), (21, [], fun _ => .bool false), (22, [], fun _ => .bool false), (23, [], fun _ => .pointer (some ⟨g4, 1, none⟩)), (24, [], fun _ => .string x.digest), (25, [], fun _ => .int .i64 (x.digest.size : Int)), (26, [], fun _ => .bool true), (27, [], fun _ => .bool true), (28, [], fun _ => .bool true), (29, [], fun _ => undef), (30, [], fun _ => undef), (31, [], fun _ => undef), (32, [], fun _ => undef), (33, [], fun _ => undef), (34, [], fun _ => undef), (35, [], fun _ => undef), (36, [], fun _ => undef), (37, [], fun _ => undef), (38, [], fun _ => undef), (39, [], fun _ => undef), (40, [], fun _ => undef), (41, [], fun _ => undef), (42, [], fun _ => .bool true)]
                [] [] [[], [12], [13], [14], [15], [16], [17, 16], [18, 16], [19, 16], [16, 20], [21], [22], [23, 22], [24, 22], [25, 22], [22, 26], [27], [28], [29, 28], [30, 28], [31], [32, 31], [31], [31], [35, 31], [34, 36, 31], [37, 31], [38, 31], [33, 39, 31], [31, 40, 28], [28, 41]]
                (WdB w4 (fun _ _ _ => True)) (by kernel_rfl) .init ⟨?_, ?_, ?_, ?_, ?_, ?_, ?_, ?_, ?_, ?_, ?_, ?_, ?_, ?_, ?_, ?_, ?_, ?_, ?_, ?_, ?_, ?_, ?_, ?_, ?_, ?_, ?_, ?_, ?_, ?_, ?_, trivial⟩ ?_
              -- FAST31 cdot
              · (refine OpH.rd rfl rfl (fun ρ us w6 ho ht hc hl hsrc hW => ?_); have e4 := (ho 4 rfl).trans (show _ = (.pointer (some ⟨g4, 0, none⟩) : Value) from rfl); clear ht ho; simp only [execOp, e4]; go_simp; try rfl)
              · (refine OpH.rd rfl rfl (fun ρ us w6 ho ht hc hl hsrc hW => ?_); have e12 := (ht 12 (by decide)).trans (show _ = (.pointer (some ⟨g4, 0, none⟩) : Value) from rfl); have z := ROW4.out w6 hW.1; have z0 := z.1; have z1 := z.2; clear ht ho; simp only [execOp, e12]; go_simp; try rfl)
              · (refine OpH.rd rfl rfl (fun ρ us w6 ho ht hc hl hsrc hW => ?_); have e13 := (ht 13 (by decide)).trans (show _ = (.string x.name : Value) from rfl); clear ht ho; simp only [execOp]; go_simp; try rfl)
              · (refine OpH.rd rfl rfl (fun ρ us w6 ho ht hc hl hsrc hW => ?_); have e14 := (ht 14 (by decide)).trans (show _ = (.int .i64 (x.name.size : Int) : Value) from rfl); clear ht ho; simp only [execOp, e14]; go_simp; exact congrArg Value.bool (decide_eq_false (by omega)))
              · (refine OpH.rd rfl rfl (fun ρ us w6 ho ht hc hl hsrc hW => ?_); have e15 := (ht 15 (by decide)).trans (show _ = (.bool false : Value) from rfl); clear ht ho; simp only [execOp, e15]; go_simp; try rfl)
              · (refine OpH.rdg rfl 4 16 false rfl rfl (by decide) (fun _ _ _ => rfl) (fun ρ us w6 ho ht hc hl hsrc hW => ?_); have e4 := (ho 4 rfl).trans (show _ = (.pointer (some ⟨g4, 0, none⟩) : Value) from rfl); clear ht ho; simp only [execOp, e4]; go_simp; try rfl)
              · (refine OpH.rdg rfl 4 16 false rfl rfl (by decide) (fun _ _ _ => rfl) (fun ρ us w6 ho ht hc hl hsrc hW => ?_); have e17 := (ht 17 (by decide)).trans (show _ = (.pointer (some ⟨g4, 0, none⟩) : Value) from rfl); have z := ROW4.out w6 hW.1; have z0 := z.1; have z1 := z.2; clear ht ho; simp only [execOp, e17]; go_simp; try rfl)
              · (refine OpH.rdg rfl 4 16 false rfl rfl (by decide) (fun _ _ _ => rfl) (fun ρ us w6 ho ht hc hl hsrc hW => ?_); have e18 := (ht 18 (by decide)).trans (show _ = (.string x.name : Value) from rfl); clear ht ho; simp only [execOp]; go_simp; try rfl)
              · (refine OpH.rdg rfl 4 16 false rfl rfl (by decide) (fun _ _ _ => rfl) (fun ρ us w6 ho ht hc hl hsrc hW => ?_); have e19 := (ht 19 (by decide)).trans (show _ = (.int .i64 (x.name.size : Int) : Value) from rfl); clear ht ho; simp only [execOp, e19]; go_simp; exact congrArg Value.bool (decide_eq_false (by omega)))
              · (refine OpH.rd rfl rfl (fun ρ us w6 ho ht hc hl hsrc hW => ?_); have e16 := (ht 16 (by decide)).trans (show _ = (.bool false : Value) from rfl); have e20 := (ht 20 (by decide)).trans (show _ = (.bool false : Value) from rfl); clear ht ho; simp only [execOp, e16, e20]; go_simp; try rfl)
              · (refine OpH.rd rfl rfl (fun ρ us w6 ho ht hc hl hsrc hW => ?_); have e21 := (ht 21 (by decide)).trans (show _ = (.bool false : Value) from rfl); clear ht ho; simp only [execOp, e21]; go_simp; try rfl)
              · (refine OpH.rdg rfl 10 22 false rfl rfl (by decide) (fun _ _ _ => rfl) (fun ρ us w6 ho ht hc hl hsrc hW => ?_); have e4 := (ho 4 rfl).trans (show _ = (.pointer (some ⟨g4, 0, none⟩) : Value) from rfl); clear ht ho; simp only [execOp, e4]; go_simp; try rfl)
              · (refine OpH.rdg rfl 10 22 false rfl rfl (by decide) (fun _ _ _ => rfl) (fun ρ us w6 ho ht hc hl hsrc hW => ?_); have e23 := (ht 23 (by decide)).trans (show _ = (.pointer (some ⟨g4, 1, none⟩) : Value) from rfl); have z := ROW4.out w6 hW.1; have z0 := z.1; have z1 := z.2; clear ht ho; simp only [execOp, e23]; go_simp; try rfl)
              · (refine OpH.rdg rfl 10 22 false rfl rfl (by decide) (fun _ _ _ => rfl) (fun ρ us w6 ho ht hc hl hsrc hW => ?_); have e24 := (ht 24 (by decide)).trans (show _ = (.string x.digest : Value) from rfl); clear ht ho; simp only [execOp]; go_simp; try rfl)
              · (refine OpH.rdg rfl 10 22 false rfl rfl (by decide) (fun _ _ _ => rfl) (fun ρ us w6 ho ht hc hl hsrc hW => ?_); have e25 := (ht 25 (by decide)).trans (show _ = (.int .i64 (x.digest.size : Int) : Value) from rfl); clear ht ho; simp only [execOp, e25]; go_simp; try rfl)
              · (refine OpH.rd rfl rfl (fun ρ us w6 ho ht hc hl hsrc hW => ?_); have e22 := (ht 22 (by decide)).trans (show _ = (.bool false : Value) from rfl); have e26 := (ht 26 (by decide)).trans (show _ = (.bool true : Value) from rfl); clear ht ho; simp only [execOp, e22, e26]; go_simp; try rfl)
              · (refine OpH.rd rfl rfl (fun ρ us w6 ho ht hc hl hsrc hW => ?_); have e27 := (ht 27 (by decide)).trans (show _ = (.bool true : Value) from rfl); clear ht ho; simp only [execOp, e27]; go_simp; try rfl)
              · (exact OpH.rdn rfl 16 28 false rfl rfl (by decide) (fun _ _ _ => rfl) (fun _ => rfl))
              · (exact OpH.rdn rfl 16 28 false rfl rfl (by decide) (fun _ _ _ => rfl) (fun _ => rfl))
              · (exact OpH.rdn rfl 16 28 false rfl rfl (by decide) (fun _ _ _ => rfl) (fun _ => rfl))
              · (exact OpH.rdu rfl 19 31 true rfl rfl (by decide) (fun _ _ _ => rfl) (fun _ => rfl))
              · (exact OpH.rdu rfl 19 31 true rfl rfl (by decide) (fun _ _ _ => rfl) (fun _ => rfl))
              · (exact OpH.rdu rfl 19 31 true rfl rfl (by decide) (fun _ _ _ => rfl) (fun _ => rfl))
              · (exact OpH.rdu rfl 19 31 true rfl rfl (by decide) (fun _ _ _ => rfl) (fun _ => rfl))
              · (exact OpH.rdu rfl 19 31 true rfl rfl (by decide) (fun _ _ _ => rfl) (fun _ => rfl))
              · (exact OpH.rdu rfl 19 31 true rfl rfl (by decide) (fun _ _ _ => rfl) (fun _ => rfl))
              · (exact OpH.rdu rfl 19 31 true rfl rfl (by decide) (fun _ _ _ => rfl) (fun _ => rfl))
              · (exact OpH.rdu rfl 19 31 true rfl rfl (by decide) (fun _ _ _ => rfl) (fun _ => rfl))
              · (exact OpH.rdu rfl 19 31 true rfl rfl (by decide) (fun _ _ _ => rfl) (fun _ => rfl))
              · (exact OpH.rdn rfl 16 28 false rfl rfl (by decide) (fun _ _ _ => rfl) (fun _ => rfl))
              · (refine OpH.rd rfl rfl (fun ρ us w6 ho ht hc hl hsrc hW => ?_); have e28 := (ht 28 (by decide)).trans (show _ = (.bool true : Value) from rfl); have e41 := (ht 41 (by decide)).trans (show _ = (undef : Value) from rfl); clear ht ho; simp only [execOp, e28, e41]; go_simp; try rfl)
              -- TSAF
              · intro us w9 hmem hW
                simp only [putAll, List.map_cons, List.map_nil, List.foldl_cons, List.foldl_nil, Act.put, List.setIfInBounds_toArray, List.set_cons_succ, List.set_cons_zero]
                generalize hsv : slotAt _ _ us = sv
                have hq : sv 42 = (.bool true : Value) := by rw [← hsv]; rfl
                rw [hq]
                have HB9 := Lib.hid hW.1
                clear hsv hq hmem hW
                go_wp2
                go_meet
                case rel => exact ⟨by rw [HAX.out]; rfl, HB9⟩
      case rest =>
        rename World => wc
        obtain ⟨rfl, HBc⟩ := hcut
        have HBf := Lib.hid (HB4.out.trans (HBc.out.mono HB4.out.size))
        generalize htk : tagAt xs k = tk at *
        have HTK := Lib.hid htk; clear htk
        cases tk with
        | false =>
          have HE : Hid (R = false) := Lib.hid (by rw [HR.out, tagsOk_bad (k := k) (by have := HL.out; omega) HTK.out])
          go_wp2
          go_ret
          exact ⟨by rw [HE.out]; rfl, HBf.out⟩
        | true =>
          have HA2 := Lib.hid (fun j (hj : j < k + 1) => (show tagAt xs j = true from by
            by_cases e : j = k
            · rw [e]; exact HTK.out
            · exact HA.out j (by omega)))
          go_wp2
          exact ⟨⟨k + 1, by omega, by go_num, HBf, HA2⟩, by simp [intOf]; omega⟩
    · have HE : Hid (R = decide (n ≤ 40)) := Lib.hid (by rw [HR.out, tagsOk_all (fun j hj => HA.out j (by have := HL.out; omega)), HL.out])
      go_wp2
      go_ret
      exact ⟨by rw [HE.out]; congr 2; simp; omega, HB.out⟩
end Go.Proofs.Ytipecejghioicaa
