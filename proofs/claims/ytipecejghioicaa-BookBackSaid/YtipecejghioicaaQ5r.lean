/- book.things: may a book's things be? Printed by gen_q5.py. -/
import Derived.Test.YtipecejghioicaaQ6r
import Derived.Test.YtipecejghioicaaQ2r
import Derived.Test.YtipecejghioicaaQ4r
import Derived.Test.YtipecejghioicaaR4r
import Derived.Deep.CutBlock
import Derived.Deep.Cut
namespace Go.Proofs.Ytipecejghioicaa
open Go.RowKit Go.Silo

/-- May the thing at place k be, behind those ahead? -/
def thingAt (s : Shape) (l : List Stripe) (xs : List Entry) (k : Nat) : Bool :=
  decide ((xs.getD k default).digest.size = 32) && ((decide (k = 0) || strLt (xs.getD (k - 1) default).digest (xs.getD k default).digest) && (decide (0 ≤ (xs.getD k default).len) && (decide ((xs.getD k default).len ≤ 2000) &&
    (decide ((xs.getD k default).list.length = manyX s (xs.getD k default).len) && lensF (s.K * s.size) l (xs.getD k default).list (xs.getD k default).len))))
/-- The stripes that so many things name. -/
def namedTo (xs : List Entry) (k : Nat) : List Int := (xs.take k).flatMap (fun x => x.list)
def thingsOk (s : Shape) (l : List Stripe) (xs : List Entry) : Bool := (List.range xs.length).all (thingAt s l xs) && (decide (namedTo xs xs.length).Nodup && decide (xs.length ≤ 60))
theorem thingsOk_bad {s : Shape} {l : List Stripe} {xs : List Entry} {k : Nat} (h : k < xs.length) (hk : thingAt s l xs k = false) : thingsOk s l xs = false := by
  unfold thingsOk
  have : (List.range xs.length).all (thingAt s l xs) = false := by
    rw [List.all_eq_false]
    exact ⟨k, List.mem_range.2 h, by simp [hk]⟩
  rw [this]; rfl
theorem namedTo_succ {xs : List Entry} {k : Nat} (h : k < xs.length) : namedTo xs (k + 1) = namedTo xs k ++ (xs.getD k default).list := by
  unfold namedTo
  rw [List.take_add_one, List.flatMap_append, List.getElem?_eq_getElem h, List.getD_eq_getElem?_getD, List.getElem?_eq_getElem h]
  simp
theorem namedTo_le {xs : List Entry} {k : Nat} (_h : k ≤ xs.length) : ∃ r, namedTo xs xs.length = namedTo xs k ++ r := by
  refine ⟨(xs.drop k).flatMap (fun x => x.list), ?_⟩
  unfold namedTo
  rw [List.take_length, ← List.flatMap_append, List.take_append_drop]
theorem thingsOk_twice {s : Shape} {l : List Stripe} {xs : List Entry} {k j : Nat} (h : k < xs.length) (hj : j < (xs.getD k default).list.length) (hm : (xs.getD k default).list.getD j 0 ∈ namedTo xs k ++ (xs.getD k default).list.take j) : thingsOk s l xs = false := by
  have hnd : ¬ (namedTo xs xs.length).Nodup := by
    obtain ⟨r, hr⟩ := namedTo_le (xs := xs) (k := k + 1) (by omega)
    rw [hr, namedTo_succ h]
    intro hn
    have h1 := (List.nodup_append.1 hn).1
    generalize (xs.getD k default).list = L at *
    have hL : L = L.take j ++ L.getD j 0 :: L.drop (j + 1) := by
      rw [List.getD_eq_getElem?_getD, List.getElem?_eq_getElem hj, Option.getD_some, ← List.drop_eq_getElem_cons hj, List.take_append_drop]
    rw [hL, ← List.append_assoc] at h1
    have hm' : L.getD j 0 ∈ namedTo xs k ++ L.take j := hm
    exact (List.nodup_append.1 h1).2.2 _ hm' _ (List.mem_cons_self ..) rfl
  unfold thingsOk
  rw [decide_eq_false hnd]
  simp
theorem thingsOk_all {s : Shape} {l : List Stripe} {xs : List Entry} (h : ∀ k, k < xs.length → thingAt s l xs k = true) (hn : (namedTo xs xs.length).Nodup) : thingsOk s l xs = decide (xs.length ≤ 60) := by
  unfold thingsOk
  rw [List.all_eq_true.2 (fun k hk => h k (List.mem_range.1 hk)), decide_eq_true hn]; rfl
/-- Numbers as keys. -/
def keysI (l : List Int) : List Value := l.map (fun a => .int .i64 a)
theorem mem_keysI {l : List Int} {a : Int} : Value.int .i64 a ∈ keysI l ↔ a ∈ l := by
  unfold keysI
  constructor
  · intro h
    obtain ⟨b, hb, e⟩ := List.mem_map.1 h
    injection e with _ e; subst e; exact hb
  · intro h; exact List.mem_map.2 ⟨a, h, rfl⟩
set_option maxRecDepth 100000 in
set_option maxHeartbeats 16000000 in
theorem things_c {tg tg0 tg1 tg2 : Bool} {S S1 : Nat → Prop} {w : World} {A0 A1 A2 : Option Addr} {n0 c0 n1 c1 n2 c2 : Nat} {s : Shape} {l : List Stripe} {nx : Int} {xs : List Entry} (hsh : shapeOk s = true)
    (h : Sl tg 69 (stripeE tg0) w S A0 n0 c0 l) (hn : n0 < 4611686018427387904) (hs : ∀ i j, i < j → j < n0 → (l.getD i default).id < (l.getD j default).id) (h1 : Sl tg1 71 (entryE tg2) w S1 A1 n1 c1 xs) (hfew : (namedTo xs xs.length).length ≤ 1000000) :
    Calls Try.prog 28 #[.agg #[.int .i64 s.K, .int .i64 s.M, .int .i64 s.size], .agg #[.slice A0 n0 c0, .slice A1 n1 c1, .slice A2 n2 c2, .int .i64 nx]] w (RetV (.bool (thingsOk s l xs)) w) := by
  have HL1 := Lib.hid h1.len
  have HL := Lib.hid h.len
  have hcap : n1 ≤ 9223372036854775807 := Nat.le_trans h1.le h1.cap
  have HLE := Lib.hid (fun W (hW : Below w.heap.size w W) (len : Int) (h0 : 0 ≤ len) (h2 : len ≤ 2000) (dg : ByteArray) (man : Bool) (A3 : Option Addr) (n3 c3 : Nat) (ys : List Int) (tg3 : Bool) (S3 : Nat → Prop) (h3 : Sl tg3 3 intE W S3 A3 n3 c3 ys) => lens_c (w := W) (A1 := A1) (A2 := A2) (n1 := n1) (c1 := c1) (n2 := n2) (c2 := c2) (nx := nx) (dg := dg) (man := man) hsh h0 h2 (h.all hW) hn hs h3); clear hs
  have HR1 := Lib.hid (fun W (hW : Below w.heap.size w W) => h1.all hW)
  have HMA := Lib.hid (fun (W : World) (len : Int) (h0 : 0 ≤ len) (h2 : len ≤ 2000) => Many_c (w := W) hsh h0 (by omega : len ≤ 100000))
  obtain ⟨R, hR⟩ : ∃ R, R = thingsOk s l xs := ⟨_, rfl⟩
  rw [← hR]
  have HR := Lib.hid hR; clear hR
  clear h h1
  go_enter Try.func28, Try.ntmps28
  have hmk := fun W : World => run_makeMap (P := Try.prog) 101 W
  go_upto_region 2 with (fail)
  clear hmk
  have hbw : Below w.heap.size w (((w.alloc (.cells #[.int .i64 s.K, .int .i64 s.M, .int .i64 s.size] 23)).alloc (.cells #[.slice A0 n0 c0, .slice A1 n1 c1, .slice A2 n2 c2, .int .i64 nx] 28)).alloc (.map #[] 0)) := (by repeat' (first | (with_reducible exact Below.refl _ _) | (with_reducible refine Below.alloc ?_ ?_ _) | (with_reducible refine Below.drew ?_) | (with_reducible refine below_drewN ?_ _) | (with_reducible refine Below.setCell ?_ ?_ _) | (refine via ?_ (by with_reducible assumption) ?_) | (refine via ?_ (below_ext _ _) ?_) | go_size))
  have r0 : (((w.alloc (.cells #[.int .i64 s.K, .int .i64 s.M, .int .i64 s.size] 23)).alloc (.cells #[.slice A0 n0 c0, .slice A1 n1 c1, .slice A2 n2 c2, .int .i64 nx] 28)).alloc (.map #[] 0)).heap[w.heap.size]? = some (.cells #[.int .i64 s.K, .int .i64 s.M, .int .i64 s.size] 23 (0, 0)) := by
    rw [Below.heap_alloc _ _ _ (by simp; omega), Below.heap_alloc _ _ _ (by simp)]; exact heap_alloc_new _ _
  have r1 : (((w.alloc (.cells #[.int .i64 s.K, .int .i64 s.M, .int .i64 s.size] 23)).alloc (.cells #[.slice A0 n0 c0, .slice A1 n1 c1, .slice A2 n2 c2, .int .i64 nx] 28)).alloc (.map #[] 0)).heap[w.heap.size + 1]? = some (.cells #[.slice A0 n0 c0, .slice A1 n1 c1, .slice A2 n2 c2, .int .i64 nx] 28 (0, 0)) := by
    rw [Below.heap_alloc _ _ _ (by simp)]
    have := heap_alloc_new (w.alloc (.cells #[.int .i64 s.K, .int .i64 s.M, .int .i64 s.size] 23)) (.cells #[.slice A0 n0 c0, .slice A1 n1 c1, .slice A2 n2 c2, .int .i64 nx] 28)
    rwa [World.size_alloc] at this
  have hset := SetAt.made (P := Try.prog) (k := 3) (e := 4) (w := ((w.alloc (.cells #[.int .i64 s.K, .int .i64 s.M, .int .i64 s.size] 23)).alloc (.cells #[.slice A0 n0 c0, .slice A1 n1 c1, .slice A2 n2 c2, .int .i64 nx] 28)))
  have hsz : (((w.alloc (.cells #[.int .i64 s.K, .int .i64 s.M, .int .i64 s.size] 23)).alloc (.cells #[.slice A0 n0 c0, .slice A1 n1 c1, .slice A2 n2 c2, .int .i64 nx] 28)).alloc (.map #[] 0)).heap.size = w.heap.size + 3 := by simp
  simp only [World.size_alloc] at hset
  generalize (((w.alloc (.cells #[.int .i64 s.K, .int .i64 s.M, .int .i64 s.size] 23)).alloc (.cells #[.slice A0 n0 c0, .slice A1 n1 c1, .slice A2 n2 c2, .int .i64 nx] 28)).alloc (.map #[] 0)) = w2 at *
  generalize hm : w.heap.size + 1 + 1 = m at *
  have hmw : w.heap.size ≤ m := by omega
  have hm1 : w.heap.size + 1 < m := by omega
  have hm2 : m < w2.heap.size := by omega
  have hm3 : w.heap.size < m := by omega
  clear hm hsz
  have HBW := Lib.hid (fun V (hV : Below m w2 V) => hbw.trans (hV.mono hmw)); clear hbw
  have HROW := Lib.hid (fun V (hV : Below m w2 V) => And.intro ((hV.block _ hm3).trans r0) ((hV.block _ hm1).trans r1))
  have HSET := Lib.hid hset; clear hset
  have q1 := cell_of_row _ _ 1 _ _ _ r1
  clear r0 r1
  go_wp2_with fail
  clear q1
  go_loopw [14] (fun iv wr => ∃ k : Nat, k ≤ n1 ∧ iv = .int .i64 k ∧ Hid (Below m w2 wr) ∧ Hid (SetAt Try.prog 3 4 wr m (namedTo xs k).length (keysI (namedTo xs k))) ∧ Hid (∀ j, j < k → thingAt s l xs j = true) ∧ Hid (namedTo xs k).Nodup) (fun iv _ => n1 - (intOf iv).toNat)
  case atStart => exact ⟨0, Nat.zero_le _, rfl, Lib.hid (Below.refl _ _), HSET, Lib.hid (fun j hj => by omega), Lib.hid (by simp [namedTo])⟩
  case round =>
    rename World => wo
    clear HSET
    obtain ⟨k, hk, rfl, HB, HST, HA, HND⟩ := hrel
    by_cases hlt : k < n1
    · obtain ⟨bE, oE, A3, n3, c3, rfl, _, hbE, so, i64l, hl3, u0, u1, u2, u3, _⟩ := (HR1.out wo (HBW.out wo HB.out)).entry_at hlt
      obtain ⟨bE', oE', A3', n3', c3', eE, _, hbE', _, _, hl3', _, _, _, u3', _⟩ := (HR1.out w (Below.refl _ _)).entry_at hlt
      injection eE with eE; injection eE with e1 e2 _; subst e1; subst e2
      have e3 := (((HBW.out wo HB.out).cell (p := ⟨bE, oE + k * 4 + 3, none⟩) hbE').trans u3').symm.trans u3
      injection e3 with e3; injection e3 with e31 e32 e33; have e31 := e31.symm; have e32 := e32.symm; have e33 := e33.symm; subst e31; subst e32; subst e33
      clear hbE' u3'
      have hp : 0 < k → wo.cell? ⟨bE, oE + (k - 1) * 4, none⟩ = some (.string (xs.getD (k - 1) default).digest) := fun h0 => by
        obtain ⟨b', off', A', n', c', e, _, _, _, _, _, hd, _⟩ := (HR1.out wo (HBW.out wo HB.out)).entry_at (k := k - 1) (by omega)
        injection e with e; injection e with e1 e2 _; subst e1; subst e2
        exact hd
      obtain ⟨pd, hpd⟩ : ∃ y, y = (xs.getD (k - 1) default).digest := ⟨_, rfl⟩
      rw [← hpd] at hp
      have hat : thingAt s l xs k = (decide ((xs.getD k default).digest.size = 32) && ((decide (k = 0) || strLt pd (xs.getD k default).digest) && (decide (0 ≤ (xs.getD k default).len) && (decide ((xs.getD k default).len ≤ 2000) && (decide ((xs.getD k default).list.length = manyX s (xs.getD k default).len) && lensF (s.K * s.size) l (xs.getD k default).list (xs.getD k default).len))))) := by rw [hpd]; rfl
      have hln := hl3.len
      rw [hln] at hat
      have HL3 := Lib.hid hl3; clear hl3
      have HLN := Lib.hid hln; clear hln
      obtain ⟨ys, hys⟩ : ∃ ys, ys = (xs.getD k default).list := ⟨_, rfl⟩
      rw [← hys] at hat HL3 HLN hl3'
      have HLW := Lib.hid (fun V (hV : Below m w2 V) => hl3'.all (HBW.out V hV)); clear hl3'
      have HYS := Lib.hid hys; clear hys
      generalize (xs.getD k default).digest = dg at *
      generalize (xs.getD k default).len = len at *
      generalize (xs.getD k default).man = man at *
      unfold I64 at i64l
      clear hpd
      have HAT := Lib.hid hat; clear hat
      go_upto_region 5 with (fail)
      have hal : Below wo.heap.size wo (wo.alloc (.cells #[.string dg, .int .i64 len, .bool man, .slice A3 n3 c3] 71)) := (Below.refl _ _).alloc (Nat.le_refl _) _
      have hrow := heap_alloc_new wo (.cells #[.string dg, .int .i64 len, .bool man, .slice A3 n3 c3] 71)
      have hzl : wo.heap.size < (wo.alloc (.cells #[.string dg, .int .i64 len, .bool man, .slice A3 n3 c3] 71)).heap.size := by simp
      generalize (wo.alloc (.cells #[.string dg, .int .i64 len, .bool man, .slice A3 n3 c3] 71)) = w4 at *
      have hmo : m ≤ wo.heap.size := by have := HB.out.size; omega
      have hm4 : m ≤ w4.heap.size := by have := hal.size; omega
      have HB4 := Lib.hid (HB.out.trans (hal.mono hmo))
      have HST4 := Lib.hid (HST.out.all hal)
      have HL34 := Lib.hid (HL3.out.all hal)
      have hbE4 : bE < w4.heap.size := by omega
      have hp2 := fun h0 => (hal.cell (p := ⟨bE, oE + (k - 1) * 4, none⟩) hbE).trans (hp h0)
      clear hal u0 u1 u2 u3 hp HST HL3
      generalize wo.heap.size = g7 at *
      have ROW7 := Lib.hid (fun V (hV : Below w4.heap.size w4 V) => (hV.block _ hzl).trans hrow)
      clear hrow hbE
      go_cut [65] from 19 to 65 (fun t V => t = .bool (!thingAt s l xs k) ∧ Hid (Below w4.heap.size w4 V))
      case first =>
        clear HA HND
        by_cases hd : (dg.size : Int) = 32
        · have hd' : ((dg.size : Int) != 32) = false := by simp [hd]
          have hA1 := HAT.out
          rw [decide_eq_true (by omega : dg.size = 32)] at hA1
          clear HAT hd
          by_cases hk0 : k = 0
          · have HA2 : Hid (thingAt s l xs k = (decide (0 ≤ len) && (decide (len ≤ 2000) && (decide (n3 = manyX s len) && lensF (s.K * s.size) l ys len)))) := Lib.hid (by rw [hA1, decide_eq_true hk0]; rfl)
            have hk0' : ¬ 0 < (k : Int) := by omega
            clear hA1 hp2 hk0
            by_cases cC : len < 0
            · have HAX : Hid (thingAt s l xs k = false) := Lib.hid (by rw [HA2.out, decide_eq_false (by omega)]; rfl)
              clear HA2
              go_wp2_with fail
              refine region_free (by kernel_rfl) (by kernel_rfl) 84 rfl [19, 20, 21, 22, 23, 24, 25, 26, 27, 28, 29, 30, 31, 32, 33, 34, 35, 36, 37, 38, 39, 40, 41, 42, 43, 44, 45, 46, 47, 48, 49, 50, 51, 52, 53, 54, 55, 56, 57, 58, 59, 60, 61, 62, 63, 64, 65] [] []
                [(19, [], fun _ => .pointer (some ⟨g7, 0, none⟩)), (20, [], fun _ => .string dg), (21, [], fun _ => .int .i64 (dg.size : Int)), (22, [], fun _ => .bool false), (23, [], fun _ => .bool false), (24, [], fun _ => .int .i64 (k : Int)), (25, [], fun _ => .bool false), (26, [], fun _ => .bool false), (27, [], fun _ => undef), (28, [], fun _ => undef), (29, [], fun _ => undef), (30, [], fun _ => undef), (31, [], fun _ => undef), (32, [], fun _ => undef), (33, [], fun _ => undef), (34, [], fun _ => undef), (35, [], fun _ => undef), (36, [], fun _ => undef), (37, [], fun _ => .bool false), (38, [], fun _ => .bool false), (39, [], fun _ => .bool false), (40, [], fun _ => .pointer (some ⟨g7, 1, none⟩)), (41, [], fun _ => .int .i64 len), (42, [], fun _ => .bool true), (43, [], fun _ => .bool true), (44, [], fun _ => .bool true), (45, [], fun _ => undef), (46, [], fun _ => undef), (47, [], fun _ => undef), (48, [], fun _ => .bool true), (49, [], fun _ => .bool true), (50, [], fun _ => undef), (51, [], fun _ => undef), (52, [], fun _ => undef), (53, [], fun _ => undef), (54, [], fun _ => undef), (55, [], fun _ => undef), (56, [], fun _ => undef), (57, [], fun _ => undef), (58, [], fun _ => .bool true), (59, [], fun _ => .bool true), (60, [], fun _ => undef), (61, [], fun _ => undef), (62, [], fun _ => undef), (63, [], fun _ => undef), (64, [], fun _ => undef), (65, [], fun _ => .bool true)]
                [] [] [[], [19], [20], [21], [22], [23], [24, 23], [25, 23], [26], [27, 26], [26], [29, 26], [26], [31, 26], [30, 32, 26], [33, 26], [34, 26], [28, 35, 26], [26, 36, 23], [23, 37], [38], [39], [40, 39], [41, 39], [39, 42], [43], [44], [45, 44], [46, 44], [44, 47], [48], [49], [50, 49], [51, 49], [49], [49], [54, 49], [53, 55, 49], [52, 56, 49], [49, 57], [58], [59], [59], [59], [60, 61, 62, 59], [63, 59], [59, 64]]
                (WdB w4 (fun _ _ _ => True)) (by kernel_rfl) .init ⟨?_, ?_, ?_, ?_, ?_, ?_, ?_, ?_, ?_, ?_, ?_, ?_, ?_, ?_, ?_, ?_, ?_, ?_, ?_, ?_, ?_, ?_, ?_, ?_, ?_, ?_, ?_, ?_, ?_, ?_, ?_, ?_, ?_, ?_, ?_, ?_, ?_, ?_, ?_, ?_, ?_, ?_, ?_, ?_, ?_, ?_, ?_, trivial⟩ ?_
              -- FAST47 cdot
              · (refine OpH.rd rfl rfl (fun ρ us w6 ho ht hc hl hsrc hW => ?_); have e7 := (ho 7 rfl).trans (show _ = (.pointer (some ⟨g7, 0, none⟩) : Value) from rfl); clear ht ho; simp only [execOp, e7]; go_simp; try rfl)
              · (refine OpH.rd rfl rfl (fun ρ us w6 ho ht hc hl hsrc hW => ?_); have e19 := (ht 19 (by decide)).trans (show _ = (.pointer (some ⟨g7, 0, none⟩) : Value) from rfl); have r7 := ROW7.out w6 hW.1; have z0 := cell_of_row _ _ 0 _ _ _ r7; have z1 := cell_of_row _ _ 1 _ _ _ r7; have z2 := cell_of_row _ _ 2 _ _ _ r7; have z3 := cell_of_row _ _ 3 _ _ _ r7; clear r7; clear ht ho; simp only [execOp, e19]; go_simp; try rfl)
              · (refine OpH.rd rfl rfl (fun ρ us w6 ho ht hc hl hsrc hW => ?_); have e20 := (ht 20 (by decide)).trans (show _ = (.string dg : Value) from rfl); clear ht ho; simp only [execOp]; go_simp; try rfl)
              · (refine OpH.rd rfl rfl (fun ρ us w6 ho ht hc hl hsrc hW => ?_); have e21 := (ht 21 (by decide)).trans (show _ = (.int .i64 (dg.size : Int) : Value) from rfl); clear ht ho; simp only [execOp, e21]; go_simp; try rfl)
              · (refine OpH.rd rfl rfl (fun ρ us w6 ho ht hc hl hsrc hW => ?_); have e22 := (ht 22 (by decide)).trans (show _ = (.bool false : Value) from rfl); clear ht ho; simp only [execOp, e22]; go_simp; try rfl)
              · (refine OpH.rdg rfl 4 23 false rfl rfl (by decide) (fun _ _ _ => rfl) (fun ρ us w6 ho ht hc hl hsrc hW => ?_); have e6 := (ho 6 rfl).trans (show _ = (.int .i64 (k : Int) : Value) from rfl); clear ht ho; simp only [execOp, e6]; go_simp; try rfl)
              · (refine OpH.rdg rfl 4 23 false rfl rfl (by decide) (fun _ _ _ => rfl) (fun ρ us w6 ho ht hc hl hsrc hW => ?_); have e24 := (ht 24 (by decide)).trans (show _ = (.int .i64 (k : Int) : Value) from rfl); clear ht ho; simp only [execOp, e24]; go_simp; exact congrArg Value.bool (decide_eq_false (by omega)))
              · (refine OpH.rdg rfl 4 23 false rfl rfl (by decide) (fun _ _ _ => rfl) (fun ρ us w6 ho ht hc hl hsrc hW => ?_); have e25 := (ht 25 (by decide)).trans (show _ = (.bool false : Value) from rfl); clear ht ho; simp only [execOp, e25]; go_simp; try rfl)
              · (exact OpH.rdn rfl 7 26 true rfl rfl (by decide) (fun _ _ _ => rfl) (fun _ => rfl))
              · (exact OpH.rdn rfl 7 26 true rfl rfl (by decide) (fun _ _ _ => rfl) (fun _ => rfl))
              · (exact OpH.rdn rfl 7 26 true rfl rfl (by decide) (fun _ _ _ => rfl) (fun _ => rfl))
              · (exact OpH.rdn rfl 7 26 true rfl rfl (by decide) (fun _ _ _ => rfl) (fun _ => rfl))
              · (exact OpH.rdn rfl 7 26 true rfl rfl (by decide) (fun _ _ _ => rfl) (fun _ => rfl))
              · (exact OpH.rdn rfl 7 26 true rfl rfl (by decide) (fun _ _ _ => rfl) (fun _ => rfl))
              · (exact OpH.rdn rfl 7 26 true rfl rfl (by decide) (fun _ _ _ => rfl) (fun _ => rfl))
              · (exact OpH.rdn rfl 7 26 true rfl rfl (by decide) (fun _ _ _ => rfl) (fun _ => rfl))
              · (exact OpH.rdn rfl 7 26 true rfl rfl (by decide) (fun _ _ _ => rfl) (fun _ => rfl))
              · (exact OpH.rdn rfl 7 26 true rfl rfl (by decide) (fun _ _ _ => rfl) (fun _ => rfl))
              · (refine OpH.rdg rfl 4 23 false rfl rfl (by decide) (fun _ _ _ => rfl) (fun ρ us w6 ho ht hc hl hsrc hW => ?_); have e26 := (ht 26 (by decide)).trans (show _ = (.bool false : Value) from rfl); have e36 := (ht 36 (by decide)).trans (show _ = (undef : Value) from rfl); clear ht ho; simp only [execOp, e26, e36]; go_simp; try rfl)
              · (refine OpH.rd rfl rfl (fun ρ us w6 ho ht hc hl hsrc hW => ?_); have e23 := (ht 23 (by decide)).trans (show _ = (.bool false : Value) from rfl); have e37 := (ht 37 (by decide)).trans (show _ = (.bool false : Value) from rfl); clear ht ho; simp only [execOp, e23, e37]; go_simp; try rfl)
              · (refine OpH.rd rfl rfl (fun ρ us w6 ho ht hc hl hsrc hW => ?_); have e38 := (ht 38 (by decide)).trans (show _ = (.bool false : Value) from rfl); clear ht ho; simp only [execOp, e38]; go_simp; try rfl)
              · (refine OpH.rdg rfl 20 39 false rfl rfl (by decide) (fun _ _ _ => rfl) (fun ρ us w6 ho ht hc hl hsrc hW => ?_); have e7 := (ho 7 rfl).trans (show _ = (.pointer (some ⟨g7, 0, none⟩) : Value) from rfl); clear ht ho; simp only [execOp, e7]; go_simp; try rfl)
              · (refine OpH.rdg rfl 20 39 false rfl rfl (by decide) (fun _ _ _ => rfl) (fun ρ us w6 ho ht hc hl hsrc hW => ?_); have e40 := (ht 40 (by decide)).trans (show _ = (.pointer (some ⟨g7, 1, none⟩) : Value) from rfl); have r7 := ROW7.out w6 hW.1; have z0 := cell_of_row _ _ 0 _ _ _ r7; have z1 := cell_of_row _ _ 1 _ _ _ r7; have z2 := cell_of_row _ _ 2 _ _ _ r7; have z3 := cell_of_row _ _ 3 _ _ _ r7; clear r7; clear ht ho; simp only [execOp, e40]; go_simp; try rfl)
              · (refine OpH.rdg rfl 20 39 false rfl rfl (by decide) (fun _ _ _ => rfl) (fun ρ us w6 ho ht hc hl hsrc hW => ?_); have e41 := (ht 41 (by decide)).trans (show _ = (.int .i64 len : Value) from rfl); clear ht ho; simp only [execOp, e41]; go_simp; try rfl)
              · (refine OpH.rd rfl rfl (fun ρ us w6 ho ht hc hl hsrc hW => ?_); have e39 := (ht 39 (by decide)).trans (show _ = (.bool false : Value) from rfl); have e42 := (ht 42 (by decide)).trans (show _ = (.bool true : Value) from rfl); clear ht ho; simp only [execOp, e39, e42]; go_simp; try rfl)
              · (refine OpH.rd rfl rfl (fun ρ us w6 ho ht hc hl hsrc hW => ?_); have e43 := (ht 43 (by decide)).trans (show _ = (.bool true : Value) from rfl); clear ht ho; simp only [execOp, e43]; go_simp; try rfl)
              · (exact OpH.rdn rfl 25 44 false rfl rfl (by decide) (fun _ _ _ => rfl) (fun _ => rfl))
              · (exact OpH.rdn rfl 25 44 false rfl rfl (by decide) (fun _ _ _ => rfl) (fun _ => rfl))
              · (exact OpH.rdn rfl 25 44 false rfl rfl (by decide) (fun _ _ _ => rfl) (fun _ => rfl))
              · (refine OpH.rd rfl rfl (fun ρ us w6 ho ht hc hl hsrc hW => ?_); have e44 := (ht 44 (by decide)).trans (show _ = (.bool true : Value) from rfl); have e47 := (ht 47 (by decide)).trans (show _ = (undef : Value) from rfl); clear ht ho; simp only [execOp, e44, e47]; go_simp; try rfl)
              · (refine OpH.rd rfl rfl (fun ρ us w6 ho ht hc hl hsrc hW => ?_); have e48 := (ht 48 (by decide)).trans (show _ = (.bool true : Value) from rfl); clear ht ho; simp only [execOp, e48]; go_simp; try rfl)
              · (exact OpH.rdn rfl 30 49 false rfl rfl (by decide) (fun _ _ _ => rfl) (fun _ => rfl))
              · (exact OpH.rdn rfl 30 49 false rfl rfl (by decide) (fun _ _ _ => rfl) (fun _ => rfl))
              · (exact OpH.rdn rfl 30 49 false rfl rfl (by decide) (fun _ _ _ => rfl) (fun _ => rfl))
              · (exact OpH.rdn rfl 30 49 false rfl rfl (by decide) (fun _ _ _ => rfl) (fun _ => rfl))
              · (exact OpH.rdn rfl 30 49 false rfl rfl (by decide) (fun _ _ _ => rfl) (fun _ => rfl))
              · (exact OpH.rdn rfl 30 49 false rfl rfl (by decide) (fun _ _ _ => rfl) (fun _ => rfl))
              · (exact OpH.rdn rfl 30 49 false rfl rfl (by decide) (fun _ _ _ => rfl) (fun _ => rfl))
              · (exact OpH.rdn rfl 30 49 false rfl rfl (by decide) (fun _ _ _ => rfl) (fun _ => rfl))
              · (refine OpH.rd rfl rfl (fun ρ us w6 ho ht hc hl hsrc hW => ?_); have e49 := (ht 49 (by decide)).trans (show _ = (.bool true : Value) from rfl); have e57 := (ht 57 (by decide)).trans (show _ = (undef : Value) from rfl); clear ht ho; simp only [execOp, e49, e57]; go_simp; try rfl)
              · (refine OpH.rd rfl rfl (fun ρ us w6 ho ht hc hl hsrc hW => ?_); have e58 := (ht 58 (by decide)).trans (show _ = (.bool true : Value) from rfl); clear ht ho; simp only [execOp, e58]; go_simp; try rfl)
              · (exact OpH.rdn rfl 40 59 false rfl rfl (by decide) (fun _ _ _ => rfl) (fun _ => rfl))
              · (exact OpH.rdn rfl 40 59 false rfl rfl (by decide) (fun _ _ _ => rfl) (fun _ => rfl))
              · (exact OpH.rdn rfl 40 59 false rfl rfl (by decide) (fun _ _ _ => rfl) (fun _ => rfl))
              · (exact OpH.rdn rfl 40 59 false rfl rfl (by decide) (fun _ _ _ => rfl) (fun _ => rfl))
              · (exact OpH.rdn rfl 40 59 false rfl rfl (by decide) (fun _ _ _ => rfl) (fun _ => rfl))
              · (refine OpH.rd rfl rfl (fun ρ us w6 ho ht hc hl hsrc hW => ?_); have e59 := (ht 59 (by decide)).trans (show _ = (.bool true : Value) from rfl); have e64 := (ht 64 (by decide)).trans (show _ = (undef : Value) from rfl); clear ht ho; simp only [execOp, e59, e64]; go_simp; try rfl)
              -- TSAF
              · intro us w9 hmem hW
                simp only [putAll, List.map_cons, List.map_nil, List.foldl_cons, List.foldl_nil, Act.put, List.setIfInBounds_toArray, List.set_cons_succ, List.set_cons_zero]
                generalize hsv : slotAt _ _ us = sv
                have hq : sv 65 = (.bool true : Value) := by rw [← hsv]; rfl
                rw [hq]
                have HB9 := Lib.hid hW.1
                clear hsv hq hmem hW
                go_wp2
                go_meet
                case rel => exact ⟨by rw [HAX.out]; rfl, HB9⟩
            · by_cases cD : 2000 < len
              · have HAX : Hid (thingAt s l xs k = false) := Lib.hid (by rw [HA2.out, decide_eq_true (by omega : 0 ≤ len), decide_eq_false (by omega)]; rfl)
                clear HA2
                go_wp2_with fail
                refine region_free (by kernel_rfl) (by kernel_rfl) 84 rfl [19, 20, 21, 22, 23, 24, 25, 26, 27, 28, 29, 30, 31, 32, 33, 34, 35, 36, 37, 38, 39, 40, 41, 42, 43, 44, 45, 46, 47, 48, 49, 50, 51, 52, 53, 54, 55, 56, 57, 58, 59, 60, 61, 62, 63, 64, 65] [] []
                  [(19, [], fun _ => .pointer (some ⟨g7, 0, none⟩)), (20, [], fun _ => .string dg), (21, [], fun _ => .int .i64 (dg.size : Int)), (22, [], fun _ => .bool false), (23, [], fun _ => .bool false), (24, [], fun _ => .int .i64 (k : Int)), (25, [], fun _ => .bool false), (26, [], fun _ => .bool false), (27, [], fun _ => undef), (28, [], fun _ => undef), (29, [], fun _ => undef), (30, [], fun _ => undef), (31, [], fun _ => undef), (32, [], fun _ => undef), (33, [], fun _ => undef), (34, [], fun _ => undef), (35, [], fun _ => undef), (36, [], fun _ => undef), (37, [], fun _ => .bool false), (38, [], fun _ => .bool false), (39, [], fun _ => .bool false), (40, [], fun _ => .pointer (some ⟨g7, 1, none⟩)), (41, [], fun _ => .int .i64 len), (42, [], fun _ => .bool false), (43, [], fun _ => .bool false), (44, [], fun _ => .bool false), (45, [], fun _ => .pointer (some ⟨g7, 1, none⟩)), (46, [], fun _ => .int .i64 len), (47, [], fun _ => .bool true), (48, [], fun _ => .bool true), (49, [], fun _ => .bool true), (50, [], fun _ => undef), (51, [], fun _ => undef), (52, [], fun _ => undef), (53, [], fun _ => undef), (54, [], fun _ => undef), (55, [], fun _ => undef), (56, [], fun _ => undef), (57, [], fun _ => undef), (58, [], fun _ => .bool true), (59, [], fun _ => .bool true), (60, [], fun _ => undef), (61, [], fun _ => undef), (62, [], fun _ => undef), (63, [], fun _ => undef), (64, [], fun _ => undef), (65, [], fun _ => .bool true)]
                  [] [] [[], [19], [20], [21], [22], [23], [24, 23], [25, 23], [26], [27, 26], [26], [29, 26], [26], [31, 26], [30, 32, 26], [33, 26], [34, 26], [28, 35, 26], [26, 36, 23], [23, 37], [38], [39], [40, 39], [41, 39], [39, 42], [43], [44], [45, 44], [46, 44], [44, 47], [48], [49], [50, 49], [51, 49], [49], [49], [54, 49], [53, 55, 49], [52, 56, 49], [49, 57], [58], [59], [59], [59], [60, 61, 62, 59], [63, 59], [59, 64]]
                  (WdB w4 (fun _ _ _ => True)) (by kernel_rfl) .init ⟨?_, ?_, ?_, ?_, ?_, ?_, ?_, ?_, ?_, ?_, ?_, ?_, ?_, ?_, ?_, ?_, ?_, ?_, ?_, ?_, ?_, ?_, ?_, ?_, ?_, ?_, ?_, ?_, ?_, ?_, ?_, ?_, ?_, ?_, ?_, ?_, ?_, ?_, ?_, ?_, ?_, ?_, ?_, ?_, ?_, ?_, ?_, trivial⟩ ?_
                -- FAST47 cdot
                · (refine OpH.rd rfl rfl (fun ρ us w6 ho ht hc hl hsrc hW => ?_); have e7 := (ho 7 rfl).trans (show _ = (.pointer (some ⟨g7, 0, none⟩) : Value) from rfl); clear ht ho; simp only [execOp, e7]; go_simp; try rfl)
                · (refine OpH.rd rfl rfl (fun ρ us w6 ho ht hc hl hsrc hW => ?_); have e19 := (ht 19 (by decide)).trans (show _ = (.pointer (some ⟨g7, 0, none⟩) : Value) from rfl); have r7 := ROW7.out w6 hW.1; have z0 := cell_of_row _ _ 0 _ _ _ r7; have z1 := cell_of_row _ _ 1 _ _ _ r7; have z2 := cell_of_row _ _ 2 _ _ _ r7; have z3 := cell_of_row _ _ 3 _ _ _ r7; clear r7; clear ht ho; simp only [execOp, e19]; go_simp; try rfl)
                · (refine OpH.rd rfl rfl (fun ρ us w6 ho ht hc hl hsrc hW => ?_); have e20 := (ht 20 (by decide)).trans (show _ = (.string dg : Value) from rfl); clear ht ho; simp only [execOp]; go_simp; try rfl)
                · (refine OpH.rd rfl rfl (fun ρ us w6 ho ht hc hl hsrc hW => ?_); have e21 := (ht 21 (by decide)).trans (show _ = (.int .i64 (dg.size : Int) : Value) from rfl); clear ht ho; simp only [execOp, e21]; go_simp; try rfl)
                · (refine OpH.rd rfl rfl (fun ρ us w6 ho ht hc hl hsrc hW => ?_); have e22 := (ht 22 (by decide)).trans (show _ = (.bool false : Value) from rfl); clear ht ho; simp only [execOp, e22]; go_simp; try rfl)
                · (refine OpH.rdg rfl 4 23 false rfl rfl (by decide) (fun _ _ _ => rfl) (fun ρ us w6 ho ht hc hl hsrc hW => ?_); have e6 := (ho 6 rfl).trans (show _ = (.int .i64 (k : Int) : Value) from rfl); clear ht ho; simp only [execOp, e6]; go_simp; try rfl)
                · (refine OpH.rdg rfl 4 23 false rfl rfl (by decide) (fun _ _ _ => rfl) (fun ρ us w6 ho ht hc hl hsrc hW => ?_); have e24 := (ht 24 (by decide)).trans (show _ = (.int .i64 (k : Int) : Value) from rfl); clear ht ho; simp only [execOp, e24]; go_simp; exact congrArg Value.bool (decide_eq_false (by omega)))
                · (refine OpH.rdg rfl 4 23 false rfl rfl (by decide) (fun _ _ _ => rfl) (fun ρ us w6 ho ht hc hl hsrc hW => ?_); have e25 := (ht 25 (by decide)).trans (show _ = (.bool false : Value) from rfl); clear ht ho; simp only [execOp, e25]; go_simp; try rfl)
                · (exact OpH.rdn rfl 7 26 true rfl rfl (by decide) (fun _ _ _ => rfl) (fun _ => rfl))
                · (exact OpH.rdn rfl 7 26 true rfl rfl (by decide) (fun _ _ _ => rfl) (fun _ => rfl))
                · (exact OpH.rdn rfl 7 26 true rfl rfl (by decide) (fun _ _ _ => rfl) (fun _ => rfl))
                · (exact OpH.rdn rfl 7 26 true rfl rfl (by decide) (fun _ _ _ => rfl) (fun _ => rfl))
                · (exact OpH.rdn rfl 7 26 true rfl rfl (by decide) (fun _ _ _ => rfl) (fun _ => rfl))
                · (exact OpH.rdn rfl 7 26 true rfl rfl (by decide) (fun _ _ _ => rfl) (fun _ => rfl))
                · (exact OpH.rdn rfl 7 26 true rfl rfl (by decide) (fun _ _ _ => rfl) (fun _ => rfl))
                · (exact OpH.rdn rfl 7 26 true rfl rfl (by decide) (fun _ _ _ => rfl) (fun _ => rfl))
                · (exact OpH.rdn rfl 7 26 true rfl rfl (by decide) (fun _ _ _ => rfl) (fun _ => rfl))
                · (exact OpH.rdn rfl 7 26 true rfl rfl (by decide) (fun _ _ _ => rfl) (fun _ => rfl))
                · (refine OpH.rdg rfl 4 23 false rfl rfl (by decide) (fun _ _ _ => rfl) (fun ρ us w6 ho ht hc hl hsrc hW => ?_); have e26 := (ht 26 (by decide)).trans (show _ = (.bool false : Value) from rfl); have e36 := (ht 36 (by decide)).trans (show _ = (undef : Value) from rfl); clear ht ho; simp only [execOp, e26, e36]; go_simp; try rfl)
                · (refine OpH.rd rfl rfl (fun ρ us w6 ho ht hc hl hsrc hW => ?_); have e23 := (ht 23 (by decide)).trans (show _ = (.bool false : Value) from rfl); have e37 := (ht 37 (by decide)).trans (show _ = (.bool false : Value) from rfl); clear ht ho; simp only [execOp, e23, e37]; go_simp; try rfl)
                · (refine OpH.rd rfl rfl (fun ρ us w6 ho ht hc hl hsrc hW => ?_); have e38 := (ht 38 (by decide)).trans (show _ = (.bool false : Value) from rfl); clear ht ho; simp only [execOp, e38]; go_simp; try rfl)
                · (refine OpH.rdg rfl 20 39 false rfl rfl (by decide) (fun _ _ _ => rfl) (fun ρ us w6 ho ht hc hl hsrc hW => ?_); have e7 := (ho 7 rfl).trans (show _ = (.pointer (some ⟨g7, 0, none⟩) : Value) from rfl); clear ht ho; simp only [execOp, e7]; go_simp; try rfl)
                · (refine OpH.rdg rfl 20 39 false rfl rfl (by decide) (fun _ _ _ => rfl) (fun ρ us w6 ho ht hc hl hsrc hW => ?_); have e40 := (ht 40 (by decide)).trans (show _ = (.pointer (some ⟨g7, 1, none⟩) : Value) from rfl); have r7 := ROW7.out w6 hW.1; have z0 := cell_of_row _ _ 0 _ _ _ r7; have z1 := cell_of_row _ _ 1 _ _ _ r7; have z2 := cell_of_row _ _ 2 _ _ _ r7; have z3 := cell_of_row _ _ 3 _ _ _ r7; clear r7; clear ht ho; simp only [execOp, e40]; go_simp; try rfl)
                · (refine OpH.rdg rfl 20 39 false rfl rfl (by decide) (fun _ _ _ => rfl) (fun ρ us w6 ho ht hc hl hsrc hW => ?_); have e41 := (ht 41 (by decide)).trans (show _ = (.int .i64 len : Value) from rfl); clear ht ho; simp only [execOp, e41]; go_simp; exact congrArg Value.bool (decide_eq_false (by omega)))
                · (refine OpH.rd rfl rfl (fun ρ us w6 ho ht hc hl hsrc hW => ?_); have e39 := (ht 39 (by decide)).trans (show _ = (.bool false : Value) from rfl); have e42 := (ht 42 (by decide)).trans (show _ = (.bool false : Value) from rfl); clear ht ho; simp only [execOp, e39, e42]; go_simp; try rfl)
                · (refine OpH.rd rfl rfl (fun ρ us w6 ho ht hc hl hsrc hW => ?_); have e43 := (ht 43 (by decide)).trans (show _ = (.bool false : Value) from rfl); clear ht ho; simp only [execOp, e43]; go_simp; try rfl)
                · (refine OpH.rdg rfl 25 44 false rfl rfl (by decide) (fun _ _ _ => rfl) (fun ρ us w6 ho ht hc hl hsrc hW => ?_); have e7 := (ho 7 rfl).trans (show _ = (.pointer (some ⟨g7, 0, none⟩) : Value) from rfl); clear ht ho; simp only [execOp, e7]; go_simp; try rfl)
                · (refine OpH.rdg rfl 25 44 false rfl rfl (by decide) (fun _ _ _ => rfl) (fun ρ us w6 ho ht hc hl hsrc hW => ?_); have e45 := (ht 45 (by decide)).trans (show _ = (.pointer (some ⟨g7, 1, none⟩) : Value) from rfl); have r7 := ROW7.out w6 hW.1; have z0 := cell_of_row _ _ 0 _ _ _ r7; have z1 := cell_of_row _ _ 1 _ _ _ r7; have z2 := cell_of_row _ _ 2 _ _ _ r7; have z3 := cell_of_row _ _ 3 _ _ _ r7; clear r7; clear ht ho; simp only [execOp, e45]; go_simp; try rfl)
                · (refine OpH.rdg rfl 25 44 false rfl rfl (by decide) (fun _ _ _ => rfl) (fun ρ us w6 ho ht hc hl hsrc hW => ?_); have e46 := (ht 46 (by decide)).trans (show _ = (.int .i64 len : Value) from rfl); clear ht ho; simp only [execOp, e46]; go_simp; try rfl)
                · (refine OpH.rd rfl rfl (fun ρ us w6 ho ht hc hl hsrc hW => ?_); have e44 := (ht 44 (by decide)).trans (show _ = (.bool false : Value) from rfl); have e47 := (ht 47 (by decide)).trans (show _ = (.bool true : Value) from rfl); clear ht ho; simp only [execOp, e44, e47]; go_simp; try rfl)
                · (refine OpH.rd rfl rfl (fun ρ us w6 ho ht hc hl hsrc hW => ?_); have e48 := (ht 48 (by decide)).trans (show _ = (.bool true : Value) from rfl); clear ht ho; simp only [execOp, e48]; go_simp; try rfl)
                · (exact OpH.rdn rfl 30 49 false rfl rfl (by decide) (fun _ _ _ => rfl) (fun _ => rfl))
                · (exact OpH.rdn rfl 30 49 false rfl rfl (by decide) (fun _ _ _ => rfl) (fun _ => rfl))
                · (exact OpH.rdn rfl 30 49 false rfl rfl (by decide) (fun _ _ _ => rfl) (fun _ => rfl))
                · (exact OpH.rdn rfl 30 49 false rfl rfl (by decide) (fun _ _ _ => rfl) (fun _ => rfl))
                · (exact OpH.rdn rfl 30 49 false rfl rfl (by decide) (fun _ _ _ => rfl) (fun _ => rfl))
                · (exact OpH.rdn rfl 30 49 false rfl rfl (by decide) (fun _ _ _ => rfl) (fun _ => rfl))
                · (exact OpH.rdn rfl 30 49 false rfl rfl (by decide) (fun _ _ _ => rfl) (fun _ => rfl))
                · (exact OpH.rdn rfl 30 49 false rfl rfl (by decide) (fun _ _ _ => rfl) (fun _ => rfl))
                · (refine OpH.rd rfl rfl (fun ρ us w6 ho ht hc hl hsrc hW => ?_); have e49 := (ht 49 (by decide)).trans (show _ = (.bool true : Value) from rfl); have e57 := (ht 57 (by decide)).trans (show _ = (undef : Value) from rfl); clear ht ho; simp only [execOp, e49, e57]; go_simp; try rfl)
                · (refine OpH.rd rfl rfl (fun ρ us w6 ho ht hc hl hsrc hW => ?_); have e58 := (ht 58 (by decide)).trans (show _ = (.bool true : Value) from rfl); clear ht ho; simp only [execOp, e58]; go_simp; try rfl)
                · (exact OpH.rdn rfl 40 59 false rfl rfl (by decide) (fun _ _ _ => rfl) (fun _ => rfl))
                · (exact OpH.rdn rfl 40 59 false rfl rfl (by decide) (fun _ _ _ => rfl) (fun _ => rfl))
                · (exact OpH.rdn rfl 40 59 false rfl rfl (by decide) (fun _ _ _ => rfl) (fun _ => rfl))
                · (exact OpH.rdn rfl 40 59 false rfl rfl (by decide) (fun _ _ _ => rfl) (fun _ => rfl))
                · (exact OpH.rdn rfl 40 59 false rfl rfl (by decide) (fun _ _ _ => rfl) (fun _ => rfl))
                · (refine OpH.rd rfl rfl (fun ρ us w6 ho ht hc hl hsrc hW => ?_); have e59 := (ht 59 (by decide)).trans (show _ = (.bool true : Value) from rfl); have e64 := (ht 64 (by decide)).trans (show _ = (undef : Value) from rfl); clear ht ho; simp only [execOp, e59, e64]; go_simp; try rfl)
                -- TSAF
                · intro us w9 hmem hW
                  simp only [putAll, List.map_cons, List.map_nil, List.foldl_cons, List.foldl_nil, Act.put, List.setIfInBounds_toArray, List.set_cons_succ, List.set_cons_zero]
                  generalize hsv : slotAt _ _ us = sv
                  have hq : sv 65 = (.bool true : Value) := by rw [← hsv]; rfl
                  rw [hq]
                  have HB9 := Lib.hid hW.1
                  clear hsv hq hmem hW
                  go_wp2
                  go_meet
                  case rel => exact ⟨by rw [HAX.out]; rfl, HB9⟩
              · have hA3 : thingAt s l xs k = (decide (n3 = manyX s len) && lensF (s.K * s.size) l ys len) := by rw [HA2.out, decide_eq_true (by omega : 0 ≤ len), decide_eq_true (by omega : len ≤ 2000)]; rfl
                clear HA2
                obtain ⟨mn, hmn⟩ : ∃ mn, mn = manyX s len := ⟨_, rfl⟩
                rw [← hmn] at hA3
                have HMN := Lib.hid hmn.symm; clear hmn
                by_cases cE : n3 = mn
                · have cE' : ((n3 : Int) != (mn : Int)) = false := by simp [cE]
                  rw [decide_eq_true cE] at hA3
                  clear cE
                  generalize hlf : lensF (s.K * s.size) l ys len = lf at *
                  have HLF := Lib.hid hlf; clear hlf
                  cases lf with
                  | true =>
                    have HAX : Hid (thingAt s l xs k = true) := Lib.hid hA3
                    clear hA3
                    go_wp2_with fail
                    refine region_free (by kernel_rfl) (by kernel_rfl) 84 rfl [19, 20, 21, 22, 23, 24, 25, 26, 27, 28, 29, 30, 31, 32, 33, 34, 35, 36, 37, 38, 39, 40, 41, 42, 43, 44, 45, 46, 47, 48, 49, 50, 51, 52, 53, 54, 55, 56, 57, 58, 59, 60, 61, 62, 63, 64, 65] [37, 44] [(56, 37), (63, 44)]
                      [(19, [], fun _ => .pointer (some ⟨g7, 0, none⟩)), (20, [], fun _ => .string dg), (21, [], fun _ => .int .i64 (dg.size : Int)), (22, [], fun _ => .bool false), (23, [], fun _ => .bool false), (24, [], fun _ => .int .i64 (k : Int)), (25, [], fun _ => .bool false), (26, [], fun _ => .bool false), (27, [], fun _ => undef), (28, [], fun _ => undef), (29, [], fun _ => undef), (30, [], fun _ => undef), (31, [], fun _ => undef), (32, [], fun _ => undef), (33, [], fun _ => undef), (34, [], fun _ => undef), (35, [], fun _ => undef), (36, [], fun _ => undef), (37, [], fun _ => .bool false), (38, [], fun _ => .bool false), (39, [], fun _ => .bool false), (40, [], fun _ => .pointer (some ⟨g7, 1, none⟩)), (41, [], fun _ => .int .i64 len), (42, [], fun _ => .bool false), (43, [], fun _ => .bool false), (44, [], fun _ => .bool false), (45, [], fun _ => .pointer (some ⟨g7, 1, none⟩)), (46, [], fun _ => .int .i64 len), (47, [], fun _ => .bool false), (48, [], fun _ => .bool false), (49, [], fun _ => .bool false), (50, [], fun _ => .pointer (some ⟨g7, 3, none⟩)), (51, [], fun _ => .slice A3 n3 c3), (52, [], fun _ => .int .i64 (n3 : Int)), (53, [], fun _ => .agg #[.int .i64 s.K, .int .i64 s.M, .int .i64 s.size]), (54, [], fun _ => .pointer (some ⟨g7, 1, none⟩)), (55, [], fun _ => .int .i64 len), (57, [37], fun _ => .bool false), (58, [], fun _ => .bool false), (59, [], fun _ => .bool false), (60, [], fun _ => .agg #[.int .i64 s.K, .int .i64 s.M, .int .i64 s.size]), (61, [], fun _ => .agg #[.slice A0 n0 c0, .slice (some ⟨bE, oE, none⟩) n1 c1, .slice A2 n2 c2, .int .i64 nx]), (62, [], fun _ => .agg #[.string dg, .int .i64 len, .bool man, .slice A3 n3 c3]), (64, [44], fun _ => .bool false), (65, [], fun _ => .bool false)]
                      [] [] [[], [19], [20], [21], [22], [23], [24, 23], [25, 23], [26], [27, 26], [26], [29, 26], [26], [31, 26], [30, 32, 26], [33, 26], [34, 26], [28, 35, 26], [26, 36, 23], [23, 37], [38], [39], [40, 39], [41, 39], [39, 42], [43], [44], [45, 44], [46, 44], [44, 47], [48], [49], [50, 49], [51, 49], [49], [49], [54, 49], [53, 55, 49], [52, 56, 49], [49, 57], [58], [59], [59], [59], [60, 61, 62, 59], [63, 59], [59, 64]]
                      (WdB w4 (fun i v _ => (i = 37 → v = .int .i64 (mn : Int)) ∧ (i = 44 → v = .bool true))) (by kernel_rfl) .init ⟨?_, ?_, ?_, ?_, ?_, ?_, ?_, ?_, ?_, ?_, ?_, ?_, ?_, ?_, ?_, ?_, ?_, ?_, ?_, ?_, ?_, ?_, ?_, ?_, ?_, ?_, ?_, ?_, ?_, ?_, ?_, ?_, ?_, ?_, ?_, ?_, ?_, ?_, ?_, ?_, ?_, ?_, ?_, ?_, ?_, ?_, ?_, trivial⟩ ?_
                    -- FAST47 cdot
                    · (refine OpH.rd rfl rfl (fun ρ us w6 ho ht hc hl hsrc hW => ?_); have e7 := (ho 7 rfl).trans (show _ = (.pointer (some ⟨g7, 0, none⟩) : Value) from rfl); clear ht ho; simp only [execOp, e7]; go_simp; try rfl)
                    · (refine OpH.rd rfl rfl (fun ρ us w6 ho ht hc hl hsrc hW => ?_); have e19 := (ht 19 (by decide)).trans (show _ = (.pointer (some ⟨g7, 0, none⟩) : Value) from rfl); have r7 := ROW7.out w6 hW.1; have z0 := cell_of_row _ _ 0 _ _ _ r7; have z1 := cell_of_row _ _ 1 _ _ _ r7; have z2 := cell_of_row _ _ 2 _ _ _ r7; have z3 := cell_of_row _ _ 3 _ _ _ r7; clear r7; clear ht ho; simp only [execOp, e19]; go_simp; try rfl)
                    · (refine OpH.rd rfl rfl (fun ρ us w6 ho ht hc hl hsrc hW => ?_); have e20 := (ht 20 (by decide)).trans (show _ = (.string dg : Value) from rfl); clear ht ho; simp only [execOp]; go_simp; try rfl)
                    · (refine OpH.rd rfl rfl (fun ρ us w6 ho ht hc hl hsrc hW => ?_); have e21 := (ht 21 (by decide)).trans (show _ = (.int .i64 (dg.size : Int) : Value) from rfl); clear ht ho; simp only [execOp, e21]; go_simp; try rfl)
                    · (refine OpH.rd rfl rfl (fun ρ us w6 ho ht hc hl hsrc hW => ?_); have e22 := (ht 22 (by decide)).trans (show _ = (.bool false : Value) from rfl); clear ht ho; simp only [execOp, e22]; go_simp; try rfl)
                    · (refine OpH.rdg rfl 4 23 false rfl rfl (by decide) (fun _ _ _ => rfl) (fun ρ us w6 ho ht hc hl hsrc hW => ?_); have e6 := (ho 6 rfl).trans (show _ = (.int .i64 (k : Int) : Value) from rfl); clear ht ho; simp only [execOp, e6]; go_simp; try rfl)
                    · (refine OpH.rdg rfl 4 23 false rfl rfl (by decide) (fun _ _ _ => rfl) (fun ρ us w6 ho ht hc hl hsrc hW => ?_); have e24 := (ht 24 (by decide)).trans (show _ = (.int .i64 (k : Int) : Value) from rfl); clear ht ho; simp only [execOp, e24]; go_simp; exact congrArg Value.bool (decide_eq_false (by omega)))
                    · (refine OpH.rdg rfl 4 23 false rfl rfl (by decide) (fun _ _ _ => rfl) (fun ρ us w6 ho ht hc hl hsrc hW => ?_); have e25 := (ht 25 (by decide)).trans (show _ = (.bool false : Value) from rfl); clear ht ho; simp only [execOp, e25]; go_simp; try rfl)
                    · (exact OpH.rdn rfl 7 26 true rfl rfl (by decide) (fun _ _ _ => rfl) (fun _ => rfl))
                    · (exact OpH.rdn rfl 7 26 true rfl rfl (by decide) (fun _ _ _ => rfl) (fun _ => rfl))
                    · (exact OpH.rdn rfl 7 26 true rfl rfl (by decide) (fun _ _ _ => rfl) (fun _ => rfl))
                    · (exact OpH.rdn rfl 7 26 true rfl rfl (by decide) (fun _ _ _ => rfl) (fun _ => rfl))
                    · (exact OpH.rdn rfl 7 26 true rfl rfl (by decide) (fun _ _ _ => rfl) (fun _ => rfl))
                    · (exact OpH.rdn rfl 7 26 true rfl rfl (by decide) (fun _ _ _ => rfl) (fun _ => rfl))
                    · (exact OpH.rdn rfl 7 26 true rfl rfl (by decide) (fun _ _ _ => rfl) (fun _ => rfl))
                    · (exact OpH.rdn rfl 7 26 true rfl rfl (by decide) (fun _ _ _ => rfl) (fun _ => rfl))
                    · (exact OpH.rdn rfl 7 26 true rfl rfl (by decide) (fun _ _ _ => rfl) (fun _ => rfl))
                    · (exact OpH.rdn rfl 7 26 true rfl rfl (by decide) (fun _ _ _ => rfl) (fun _ => rfl))
                    · (refine OpH.rdg rfl 4 23 false rfl rfl (by decide) (fun _ _ _ => rfl) (fun ρ us w6 ho ht hc hl hsrc hW => ?_); have e26 := (ht 26 (by decide)).trans (show _ = (.bool false : Value) from rfl); have e36 := (ht 36 (by decide)).trans (show _ = (undef : Value) from rfl); clear ht ho; simp only [execOp, e26, e36]; go_simp; try rfl)
                    · (refine OpH.rd rfl rfl (fun ρ us w6 ho ht hc hl hsrc hW => ?_); have e23 := (ht 23 (by decide)).trans (show _ = (.bool false : Value) from rfl); have e37 := (ht 37 (by decide)).trans (show _ = (.bool false : Value) from rfl); clear ht ho; simp only [execOp, e23, e37]; go_simp; try rfl)
                    · (refine OpH.rd rfl rfl (fun ρ us w6 ho ht hc hl hsrc hW => ?_); have e38 := (ht 38 (by decide)).trans (show _ = (.bool false : Value) from rfl); clear ht ho; simp only [execOp, e38]; go_simp; try rfl)
                    · (refine OpH.rdg rfl 20 39 false rfl rfl (by decide) (fun _ _ _ => rfl) (fun ρ us w6 ho ht hc hl hsrc hW => ?_); have e7 := (ho 7 rfl).trans (show _ = (.pointer (some ⟨g7, 0, none⟩) : Value) from rfl); clear ht ho; simp only [execOp, e7]; go_simp; try rfl)
                    · (refine OpH.rdg rfl 20 39 false rfl rfl (by decide) (fun _ _ _ => rfl) (fun ρ us w6 ho ht hc hl hsrc hW => ?_); have e40 := (ht 40 (by decide)).trans (show _ = (.pointer (some ⟨g7, 1, none⟩) : Value) from rfl); have r7 := ROW7.out w6 hW.1; have z0 := cell_of_row _ _ 0 _ _ _ r7; have z1 := cell_of_row _ _ 1 _ _ _ r7; have z2 := cell_of_row _ _ 2 _ _ _ r7; have z3 := cell_of_row _ _ 3 _ _ _ r7; clear r7; clear ht ho; simp only [execOp, e40]; go_simp; try rfl)
                    · (refine OpH.rdg rfl 20 39 false rfl rfl (by decide) (fun _ _ _ => rfl) (fun ρ us w6 ho ht hc hl hsrc hW => ?_); have e41 := (ht 41 (by decide)).trans (show _ = (.int .i64 len : Value) from rfl); clear ht ho; simp only [execOp, e41]; go_simp; exact congrArg Value.bool (decide_eq_false (by omega)))
                    · (refine OpH.rd rfl rfl (fun ρ us w6 ho ht hc hl hsrc hW => ?_); have e39 := (ht 39 (by decide)).trans (show _ = (.bool false : Value) from rfl); have e42 := (ht 42 (by decide)).trans (show _ = (.bool false : Value) from rfl); clear ht ho; simp only [execOp, e39, e42]; go_simp; try rfl)
                    · (refine OpH.rd rfl rfl (fun ρ us w6 ho ht hc hl hsrc hW => ?_); have e43 := (ht 43 (by decide)).trans (show _ = (.bool false : Value) from rfl); clear ht ho; simp only [execOp, e43]; go_simp; try rfl)
                    · (refine OpH.rdg rfl 25 44 false rfl rfl (by decide) (fun _ _ _ => rfl) (fun ρ us w6 ho ht hc hl hsrc hW => ?_); have e7 := (ho 7 rfl).trans (show _ = (.pointer (some ⟨g7, 0, none⟩) : Value) from rfl); clear ht ho; simp only [execOp, e7]; go_simp; try rfl)
                    · (refine OpH.rdg rfl 25 44 false rfl rfl (by decide) (fun _ _ _ => rfl) (fun ρ us w6 ho ht hc hl hsrc hW => ?_); have e45 := (ht 45 (by decide)).trans (show _ = (.pointer (some ⟨g7, 1, none⟩) : Value) from rfl); have r7 := ROW7.out w6 hW.1; have z0 := cell_of_row _ _ 0 _ _ _ r7; have z1 := cell_of_row _ _ 1 _ _ _ r7; have z2 := cell_of_row _ _ 2 _ _ _ r7; have z3 := cell_of_row _ _ 3 _ _ _ r7; clear r7; clear ht ho; simp only [execOp, e45]; go_simp; try rfl)
                    · (refine OpH.rdg rfl 25 44 false rfl rfl (by decide) (fun _ _ _ => rfl) (fun ρ us w6 ho ht hc hl hsrc hW => ?_); have e46 := (ht 46 (by decide)).trans (show _ = (.int .i64 len : Value) from rfl); clear ht ho; simp only [execOp, e46]; go_simp; exact congrArg Value.bool (decide_eq_false (by omega)))
                    · (refine OpH.rd rfl rfl (fun ρ us w6 ho ht hc hl hsrc hW => ?_); have e44 := (ht 44 (by decide)).trans (show _ = (.bool false : Value) from rfl); have e47 := (ht 47 (by decide)).trans (show _ = (.bool false : Value) from rfl); clear ht ho; simp only [execOp, e44, e47]; go_simp; try rfl)
                    · (refine OpH.rd rfl rfl (fun ρ us w6 ho ht hc hl hsrc hW => ?_); have e48 := (ht 48 (by decide)).trans (show _ = (.bool false : Value) from rfl); clear ht ho; simp only [execOp, e48]; go_simp; try rfl)
                    · (refine OpH.rdg rfl 30 49 false rfl rfl (by decide) (fun _ _ _ => rfl) (fun ρ us w6 ho ht hc hl hsrc hW => ?_); have e7 := (ho 7 rfl).trans (show _ = (.pointer (some ⟨g7, 0, none⟩) : Value) from rfl); clear ht ho; simp only [execOp, e7]; go_simp; try rfl)
                    · (refine OpH.rdg rfl 30 49 false rfl rfl (by decide) (fun _ _ _ => rfl) (fun ρ us w6 ho ht hc hl hsrc hW => ?_); have e50 := (ht 50 (by decide)).trans (show _ = (.pointer (some ⟨g7, 3, none⟩) : Value) from rfl); have r7 := ROW7.out w6 hW.1; have z0 := cell_of_row _ _ 0 _ _ _ r7; have z1 := cell_of_row _ _ 1 _ _ _ r7; have z2 := cell_of_row _ _ 2 _ _ _ r7; have z3 := cell_of_row _ _ 3 _ _ _ r7; clear r7; clear ht ho; simp only [execOp, e50]; go_simp; try rfl)
                    · (refine OpH.rdg rfl 30 49 false rfl rfl (by decide) (fun _ _ _ => rfl) (fun ρ us w6 ho ht hc hl hsrc hW => ?_); have e51 := (ht 51 (by decide)).trans (show _ = (.slice A3 n3 c3 : Value) from rfl); clear ht ho; simp only [execOp]; go_simp; try rfl)
                    · (refine OpH.rdg rfl 30 49 false rfl rfl (by decide) (fun _ _ _ => rfl) (fun ρ us w6 ho ht hc hl hsrc hW => ?_); have e2 := (ho 2 rfl).trans (show _ = (.pointer (some ⟨w.heap.size, 0, none⟩) : Value) from rfl); have rr := HROW.out w6 (HB4.out.trans (hW.1.mono hm4)); have z0 := cell_of_row _ _ 0 _ _ _ rr.1; have z1 := cell_of_row _ _ 1 _ _ _ rr.1; have z2 := cell_of_row _ _ 2 _ _ _ rr.1; have x0 := cell_of_row _ _ 0 _ _ _ rr.2; have x1 := cell_of_row _ _ 1 _ _ _ rr.2; have x2 := cell_of_row _ _ 2 _ _ _ rr.2; have x3 := cell_of_row _ _ 3 _ _ _ rr.2; clear rr; clear ht ho; simp only [execOp, e2]; go_simp; try rfl)
                    · (refine OpH.rdg rfl 30 49 false rfl rfl (by decide) (fun _ _ _ => rfl) (fun ρ us w6 ho ht hc hl hsrc hW => ?_); have e7 := (ho 7 rfl).trans (show _ = (.pointer (some ⟨g7, 0, none⟩) : Value) from rfl); clear ht ho; simp only [execOp, e7]; go_simp; try rfl)
                    · (refine OpH.rdg rfl 30 49 false rfl rfl (by decide) (fun _ _ _ => rfl) (fun ρ us w6 ho ht hc hl hsrc hW => ?_); have e54 := (ht 54 (by decide)).trans (show _ = (.pointer (some ⟨g7, 1, none⟩) : Value) from rfl); have r7 := ROW7.out w6 hW.1; have z0 := cell_of_row _ _ 0 _ _ _ r7; have z1 := cell_of_row _ _ 1 _ _ _ r7; have z2 := cell_of_row _ _ 2 _ _ _ r7; have z3 := cell_of_row _ _ 3 _ _ _ r7; clear r7; clear ht ho; simp only [execOp, e54]; go_simp; try rfl)
                    · refine OpH.wr rfl (fun Z us w6 ho ht hni hlim hreq hW K hK => ?_)
                      have e53 := (ht 53 (by decide)).trans (show _ = (.agg #[.int .i64 s.K, .int .i64 s.M, .int .i64 s.size] : Value) from rfl)
                      have e55 := (ht 55 (by decide)).trans (show _ = (.int .i64 len : Value) from rfl)
                      have hcl := HMA.out w6 len (by omega) (by omega)
                      rw [HMN.out] at hcl
                      have eg := (ht 49 (by decide)).trans (show _ = (.bool false : Value) from rfl)
                      refine step_callw (GuardOk.wanted (.at_ (j := 30) (t := 49) (b := false) rfl rfl eg)) 52 #[.tmp 53, .tmp 55] #[23, 3] rfl Try.func52 (by kernel_rfl) (by kernel_rfl) #[.agg #[.int .i64 s.K, .int .i64 s.M, .int .i64 s.size], .int .i64 len] (by simp [e53, e55]; try rfl) hcl ?_
                      rintro e w7 ⟨rfl, hb7⟩
                      exact ⟨_, rfl, hK _ _ (hW.snoc hb7 (fun j v h => h) (⟨fun _ => rfl, fun h => absurd h (by decide)⟩))⟩
                    · (refine OpH.rdg rfl 30 49 false rfl rfl (by decide) (fun _ _ _ => rfl) (fun ρ us w6 ho ht hc hl hsrc hW => ?_); have e52 := (ht 52 (by decide)).trans (show _ = (.int .i64 (n3 : Int) : Value) from rfl); have e56 := (ht 56 (by decide)).trans (show _ = ((us.lookup 37).getD undef : Value) from rfl); rw [(hW.at_ (hsrc 37 (by exact (List.mem_singleton.2 rfl : (37 : Nat) ∈ [37])))).1 rfl] at e56; clear ht ho; simp only [execOp, e52, e56]; go_simp; try rfl)
                    · (refine OpH.rd rfl rfl (fun ρ us w6 ho ht hc hl hsrc hW => ?_); have e49 := (ht 49 (by decide)).trans (show _ = (.bool false : Value) from rfl); have e57 := (ht 57 (by decide)).trans (show _ = (.bool false : Value) from rfl); clear ht ho; simp only [execOp, e49, e57]; go_simp; try rfl)
                    · (refine OpH.rd rfl rfl (fun ρ us w6 ho ht hc hl hsrc hW => ?_); have e58 := (ht 58 (by decide)).trans (show _ = (.bool false : Value) from rfl); clear ht ho; simp only [execOp, e58]; go_simp; try rfl)
                    · (refine OpH.rdg rfl 40 59 false rfl rfl (by decide) (fun _ _ _ => rfl) (fun ρ us w6 ho ht hc hl hsrc hW => ?_); have e2 := (ho 2 rfl).trans (show _ = (.pointer (some ⟨w.heap.size, 0, none⟩) : Value) from rfl); have rr := HROW.out w6 (HB4.out.trans (hW.1.mono hm4)); have z0 := cell_of_row _ _ 0 _ _ _ rr.1; have z1 := cell_of_row _ _ 1 _ _ _ rr.1; have z2 := cell_of_row _ _ 2 _ _ _ rr.1; have x0 := cell_of_row _ _ 0 _ _ _ rr.2; have x1 := cell_of_row _ _ 1 _ _ _ rr.2; have x2 := cell_of_row _ _ 2 _ _ _ rr.2; have x3 := cell_of_row _ _ 3 _ _ _ rr.2; clear rr; clear ht ho; simp only [execOp, e2]; go_simp; try rfl)
                    · (refine OpH.rdg rfl 40 59 false rfl rfl (by decide) (fun _ _ _ => rfl) (fun ρ us w6 ho ht hc hl hsrc hW => ?_); have e3 := (ho 3 rfl).trans (show _ = (.pointer (some ⟨w.heap.size + 1, 0, none⟩) : Value) from rfl); have rr := HROW.out w6 (HB4.out.trans (hW.1.mono hm4)); have z0 := cell_of_row _ _ 0 _ _ _ rr.1; have z1 := cell_of_row _ _ 1 _ _ _ rr.1; have z2 := cell_of_row _ _ 2 _ _ _ rr.1; have x0 := cell_of_row _ _ 0 _ _ _ rr.2; have x1 := cell_of_row _ _ 1 _ _ _ rr.2; have x2 := cell_of_row _ _ 2 _ _ _ rr.2; have x3 := cell_of_row _ _ 3 _ _ _ rr.2; clear rr; clear ht ho; simp only [execOp, e3]; go_simp; try rfl)
                    · (refine OpH.rdg rfl 40 59 false rfl rfl (by decide) (fun _ _ _ => rfl) (fun ρ us w6 ho ht hc hl hsrc hW => ?_); have e7 := (ho 7 rfl).trans (show _ = (.pointer (some ⟨g7, 0, none⟩) : Value) from rfl); have r7 := ROW7.out w6 hW.1; have z0 := cell_of_row _ _ 0 _ _ _ r7; have z1 := cell_of_row _ _ 1 _ _ _ r7; have z2 := cell_of_row _ _ 2 _ _ _ r7; have z3 := cell_of_row _ _ 3 _ _ _ r7; clear r7; clear ht ho; simp only [execOp, e7]; go_simp; try rfl)
                    · refine OpH.wr rfl (fun Z us w6 ho ht hni hlim hreq hW K hK => ?_)
                      have e60 := (ht 60 (by decide)).trans (show _ = (.agg #[.int .i64 s.K, .int .i64 s.M, .int .i64 s.size] : Value) from rfl)
                      have e61 := (ht 61 (by decide)).trans (show _ = (.agg #[.slice A0 n0 c0, .slice (some ⟨bE, oE, none⟩) n1 c1, .slice A2 n2 c2, .int .i64 nx] : Value) from rfl)
                      have e62 := (ht 62 (by decide)).trans (show _ = (.agg #[.string dg, .int .i64 len, .bool man, .slice A3 n3 c3] : Value) from rfl)
                      have hcl := HLE.out w6 (HBW.out w6 (HB4.out.trans (hW.1.mono hm4))) len (by omega) (by omega) dg man A3 n3 c3 ys _ _ (HL34.out.all hW.1)
                      rw [HLF.out] at hcl
                      have eg := (ht 59 (by decide)).trans (show _ = (.bool false : Value) from rfl)
                      refine step_callw (GuardOk.wanted (.at_ (j := 40) (t := 59) (b := false) rfl rfl eg)) 53 #[.tmp 60, .tmp 61, .tmp 62] #[23, 28, 71] rfl Try.func53 (by kernel_rfl) (by kernel_rfl) #[.agg #[.int .i64 s.K, .int .i64 s.M, .int .i64 s.size], .agg #[.slice A0 n0 c0, .slice (some ⟨bE, oE, none⟩) n1 c1, .slice A2 n2 c2, .int .i64 nx], .agg #[.string dg, .int .i64 len, .bool man, .slice A3 n3 c3]] (by simp [e60, e61, e62]; try rfl) hcl ?_
                      rintro e w7 ⟨rfl, hb7⟩
                      exact ⟨_, rfl, hK _ _ (hW.snoc hb7 (fun j v h => h) (⟨fun h => absurd h (by decide), fun _ => rfl⟩))⟩
                    · (refine OpH.rdg rfl 40 59 false rfl rfl (by decide) (fun _ _ _ => rfl) (fun ρ us w6 ho ht hc hl hsrc hW => ?_); have e63 := (ht 63 (by decide)).trans (show _ = ((us.lookup 44).getD undef : Value) from rfl); rw [(hW.at_ (hsrc 44 (by exact (List.mem_singleton.2 rfl : (44 : Nat) ∈ [44])))).2 rfl] at e63; clear ht ho; simp only [execOp, e63]; go_simp; try rfl)
                    · (refine OpH.rd rfl rfl (fun ρ us w6 ho ht hc hl hsrc hW => ?_); have e59 := (ht 59 (by decide)).trans (show _ = (.bool false : Value) from rfl); have e64 := (ht 64 (by decide)).trans (show _ = (.bool false : Value) from rfl); clear ht ho; simp only [execOp, e59, e64]; go_simp; try rfl)
                    -- TSAF
                    · intro us w9 hmem hW
                      simp only [putAll, List.map_cons, List.map_nil, List.foldl_cons, List.foldl_nil, Act.put, List.setIfInBounds_toArray, List.set_cons_succ, List.set_cons_zero]
                      generalize hsv : slotAt _ _ us = sv
                      have hq : sv 65 = (.bool false : Value) := by rw [← hsv]; rfl
                      rw [hq]
                      have HB9 := Lib.hid hW.1
                      clear hsv hq hmem hW
                      go_wp2
                      go_meet
                      case rel => exact ⟨by rw [HAX.out]; rfl, HB9⟩
                  | false =>
                    have HAX : Hid (thingAt s l xs k = false) := Lib.hid hA3
                    clear hA3
                    go_wp2_with fail
                    refine region_free (by kernel_rfl) (by kernel_rfl) 84 rfl [19, 20, 21, 22, 23, 24, 25, 26, 27, 28, 29, 30, 31, 32, 33, 34, 35, 36, 37, 38, 39, 40, 41, 42, 43, 44, 45, 46, 47, 48, 49, 50, 51, 52, 53, 54, 55, 56, 57, 58, 59, 60, 61, 62, 63, 64, 65] [37, 44] [(56, 37), (63, 44)]
                      [(19, [], fun _ => .pointer (some ⟨g7, 0, none⟩)), (20, [], fun _ => .string dg), (21, [], fun _ => .int .i64 (dg.size : Int)), (22, [], fun _ => .bool false), (23, [], fun _ => .bool false), (24, [], fun _ => .int .i64 (k : Int)), (25, [], fun _ => .bool false), (26, [], fun _ => .bool false), (27, [], fun _ => undef), (28, [], fun _ => undef), (29, [], fun _ => undef), (30, [], fun _ => undef), (31, [], fun _ => undef), (32, [], fun _ => undef), (33, [], fun _ => undef), (34, [], fun _ => undef), (35, [], fun _ => undef), (36, [], fun _ => undef), (37, [], fun _ => .bool false), (38, [], fun _ => .bool false), (39, [], fun _ => .bool false), (40, [], fun _ => .pointer (some ⟨g7, 1, none⟩)), (41, [], fun _ => .int .i64 len), (42, [], fun _ => .bool false), (43, [], fun _ => .bool false), (44, [], fun _ => .bool false), (45, [], fun _ => .pointer (some ⟨g7, 1, none⟩)), (46, [], fun _ => .int .i64 len), (47, [], fun _ => .bool false), (48, [], fun _ => .bool false), (49, [], fun _ => .bool false), (50, [], fun _ => .pointer (some ⟨g7, 3, none⟩)), (51, [], fun _ => .slice A3 n3 c3), (52, [], fun _ => .int .i64 (n3 : Int)), (53, [], fun _ => .agg #[.int .i64 s.K, .int .i64 s.M, .int .i64 s.size]), (54, [], fun _ => .pointer (some ⟨g7, 1, none⟩)), (55, [], fun _ => .int .i64 len), (57, [37], fun _ => .bool false), (58, [], fun _ => .bool false), (59, [], fun _ => .bool false), (60, [], fun _ => .agg #[.int .i64 s.K, .int .i64 s.M, .int .i64 s.size]), (61, [], fun _ => .agg #[.slice A0 n0 c0, .slice (some ⟨bE, oE, none⟩) n1 c1, .slice A2 n2 c2, .int .i64 nx]), (62, [], fun _ => .agg #[.string dg, .int .i64 len, .bool man, .slice A3 n3 c3]), (64, [44], fun _ => .bool true), (65, [], fun _ => .bool true)]
                      [] [] [[], [19], [20], [21], [22], [23], [24, 23], [25, 23], [26], [27, 26], [26], [29, 26], [26], [31, 26], [30, 32, 26], [33, 26], [34, 26], [28, 35, 26], [26, 36, 23], [23, 37], [38], [39], [40, 39], [41, 39], [39, 42], [43], [44], [45, 44], [46, 44], [44, 47], [48], [49], [50, 49], [51, 49], [49], [49], [54, 49], [53, 55, 49], [52, 56, 49], [49, 57], [58], [59], [59], [59], [60, 61, 62, 59], [63, 59], [59, 64]]
                      (WdB w4 (fun i v _ => (i = 37 → v = .int .i64 (mn : Int)) ∧ (i = 44 → v = .bool false))) (by kernel_rfl) .init ⟨?_, ?_, ?_, ?_, ?_, ?_, ?_, ?_, ?_, ?_, ?_, ?_, ?_, ?_, ?_, ?_, ?_, ?_, ?_, ?_, ?_, ?_, ?_, ?_, ?_, ?_, ?_, ?_, ?_, ?_, ?_, ?_, ?_, ?_, ?_, ?_, ?_, ?_, ?_, ?_, ?_, ?_, ?_, ?_, ?_, ?_, ?_, trivial⟩ ?_
                    -- FAST47 cdot
                    · (refine OpH.rd rfl rfl (fun ρ us w6 ho ht hc hl hsrc hW => ?_); have e7 := (ho 7 rfl).trans (show _ = (.pointer (some ⟨g7, 0, none⟩) : Value) from rfl); clear ht ho; simp only [execOp, e7]; go_simp; try rfl)
                    · (refine OpH.rd rfl rfl (fun ρ us w6 ho ht hc hl hsrc hW => ?_); have e19 := (ht 19 (by decide)).trans (show _ = (.pointer (some ⟨g7, 0, none⟩) : Value) from rfl); have r7 := ROW7.out w6 hW.1; have z0 := cell_of_row _ _ 0 _ _ _ r7; have z1 := cell_of_row _ _ 1 _ _ _ r7; have z2 := cell_of_row _ _ 2 _ _ _ r7; have z3 := cell_of_row _ _ 3 _ _ _ r7; clear r7; clear ht ho; simp only [execOp, e19]; go_simp; try rfl)
                    · (refine OpH.rd rfl rfl (fun ρ us w6 ho ht hc hl hsrc hW => ?_); have e20 := (ht 20 (by decide)).trans (show _ = (.string dg : Value) from rfl); clear ht ho; simp only [execOp]; go_simp; try rfl)
                    · (refine OpH.rd rfl rfl (fun ρ us w6 ho ht hc hl hsrc hW => ?_); have e21 := (ht 21 (by decide)).trans (show _ = (.int .i64 (dg.size : Int) : Value) from rfl); clear ht ho; simp only [execOp, e21]; go_simp; try rfl)
                    · (refine OpH.rd rfl rfl (fun ρ us w6 ho ht hc hl hsrc hW => ?_); have e22 := (ht 22 (by decide)).trans (show _ = (.bool false : Value) from rfl); clear ht ho; simp only [execOp, e22]; go_simp; try rfl)
                    · (refine OpH.rdg rfl 4 23 false rfl rfl (by decide) (fun _ _ _ => rfl) (fun ρ us w6 ho ht hc hl hsrc hW => ?_); have e6 := (ho 6 rfl).trans (show _ = (.int .i64 (k : Int) : Value) from rfl); clear ht ho; simp only [execOp, e6]; go_simp; try rfl)
                    · (refine OpH.rdg rfl 4 23 false rfl rfl (by decide) (fun _ _ _ => rfl) (fun ρ us w6 ho ht hc hl hsrc hW => ?_); have e24 := (ht 24 (by decide)).trans (show _ = (.int .i64 (k : Int) : Value) from rfl); clear ht ho; simp only [execOp, e24]; go_simp; exact congrArg Value.bool (decide_eq_false (by omega)))
                    · (refine OpH.rdg rfl 4 23 false rfl rfl (by decide) (fun _ _ _ => rfl) (fun ρ us w6 ho ht hc hl hsrc hW => ?_); have e25 := (ht 25 (by decide)).trans (show _ = (.bool false : Value) from rfl); clear ht ho; simp only [execOp, e25]; go_simp; try rfl)
                    · (exact OpH.rdn rfl 7 26 true rfl rfl (by decide) (fun _ _ _ => rfl) (fun _ => rfl))
                    · (exact OpH.rdn rfl 7 26 true rfl rfl (by decide) (fun _ _ _ => rfl) (fun _ => rfl))
                    · (exact OpH.rdn rfl 7 26 true rfl rfl (by decide) (fun _ _ _ => rfl) (fun _ => rfl))
                    · (exact OpH.rdn rfl 7 26 true rfl rfl (by decide) (fun _ _ _ => rfl) (fun _ => rfl))
                    · (exact OpH.rdn rfl 7 26 true rfl rfl (by decide) (fun _ _ _ => rfl) (fun _ => rfl))
                    · (exact OpH.rdn rfl 7 26 true rfl rfl (by decide) (fun _ _ _ => rfl) (fun _ => rfl))
                    · (exact OpH.rdn rfl 7 26 true rfl rfl (by decide) (fun _ _ _ => rfl) (fun _ => rfl))
                    · (exact OpH.rdn rfl 7 26 true rfl rfl (by decide) (fun _ _ _ => rfl) (fun _ => rfl))
                    · (exact OpH.rdn rfl 7 26 true rfl rfl (by decide) (fun _ _ _ => rfl) (fun _ => rfl))
                    · (exact OpH.rdn rfl 7 26 true rfl rfl (by decide) (fun _ _ _ => rfl) (fun _ => rfl))
                    · (refine OpH.rdg rfl 4 23 false rfl rfl (by decide) (fun _ _ _ => rfl) (fun ρ us w6 ho ht hc hl hsrc hW => ?_); have e26 := (ht 26 (by decide)).trans (show _ = (.bool false : Value) from rfl); have e36 := (ht 36 (by decide)).trans (show _ = (undef : Value) from rfl); clear ht ho; simp only [execOp, e26, e36]; go_simp; try rfl)
                    · (refine OpH.rd rfl rfl (fun ρ us w6 ho ht hc hl hsrc hW => ?_); have e23 := (ht 23 (by decide)).trans (show _ = (.bool false : Value) from rfl); have e37 := (ht 37 (by decide)).trans (show _ = (.bool false : Value) from rfl); clear ht ho; simp only [execOp, e23, e37]; go_simp; try rfl)
                    · (refine OpH.rd rfl rfl (fun ρ us w6 ho ht hc hl hsrc hW => ?_); have e38 := (ht 38 (by decide)).trans (show _ = (.bool false : Value) from rfl); clear ht ho; simp only [execOp, e38]; go_simp; try rfl)
                    · (refine OpH.rdg rfl 20 39 false rfl rfl (by decide) (fun _ _ _ => rfl) (fun ρ us w6 ho ht hc hl hsrc hW => ?_); have e7 := (ho 7 rfl).trans (show _ = (.pointer (some ⟨g7, 0, none⟩) : Value) from rfl); clear ht ho; simp only [execOp, e7]; go_simp; try rfl)
                    · (refine OpH.rdg rfl 20 39 false rfl rfl (by decide) (fun _ _ _ => rfl) (fun ρ us w6 ho ht hc hl hsrc hW => ?_); have e40 := (ht 40 (by decide)).trans (show _ = (.pointer (some ⟨g7, 1, none⟩) : Value) from rfl); have r7 := ROW7.out w6 hW.1; have z0 := cell_of_row _ _ 0 _ _ _ r7; have z1 := cell_of_row _ _ 1 _ _ _ r7; have z2 := cell_of_row _ _ 2 _ _ _ r7; have z3 := cell_of_row _ _ 3 _ _ _ r7; clear r7; clear ht ho; simp only [execOp, e40]; go_simp; try rfl)
                    · (refine OpH.rdg rfl 20 39 false rfl rfl (by decide) (fun _ _ _ => rfl) (fun ρ us w6 ho ht hc hl hsrc hW => ?_); have e41 := (ht 41 (by decide)).trans (show _ = (.int .i64 len : Value) from rfl); clear ht ho; simp only [execOp, e41]; go_simp; exact congrArg Value.bool (decide_eq_false (by omega)))
                    · (refine OpH.rd rfl rfl (fun ρ us w6 ho ht hc hl hsrc hW => ?_); have e39 := (ht 39 (by decide)).trans (show _ = (.bool false : Value) from rfl); have e42 := (ht 42 (by decide)).trans (show _ = (.bool false : Value) from rfl); clear ht ho; simp only [execOp, e39, e42]; go_simp; try rfl)
                    · (refine OpH.rd rfl rfl (fun ρ us w6 ho ht hc hl hsrc hW => ?_); have e43 := (ht 43 (by decide)).trans (show _ = (.bool false : Value) from rfl); clear ht ho; simp only [execOp, e43]; go_simp; try rfl)
                    · (refine OpH.rdg rfl 25 44 false rfl rfl (by decide) (fun _ _ _ => rfl) (fun ρ us w6 ho ht hc hl hsrc hW => ?_); have e7 := (ho 7 rfl).trans (show _ = (.pointer (some ⟨g7, 0, none⟩) : Value) from rfl); clear ht ho; simp only [execOp, e7]; go_simp; try rfl)
                    · (refine OpH.rdg rfl 25 44 false rfl rfl (by decide) (fun _ _ _ => rfl) (fun ρ us w6 ho ht hc hl hsrc hW => ?_); have e45 := (ht 45 (by decide)).trans (show _ = (.pointer (some ⟨g7, 1, none⟩) : Value) from rfl); have r7 := ROW7.out w6 hW.1; have z0 := cell_of_row _ _ 0 _ _ _ r7; have z1 := cell_of_row _ _ 1 _ _ _ r7; have z2 := cell_of_row _ _ 2 _ _ _ r7; have z3 := cell_of_row _ _ 3 _ _ _ r7; clear r7; clear ht ho; simp only [execOp, e45]; go_simp; try rfl)
                    · (refine OpH.rdg rfl 25 44 false rfl rfl (by decide) (fun _ _ _ => rfl) (fun ρ us w6 ho ht hc hl hsrc hW => ?_); have e46 := (ht 46 (by decide)).trans (show _ = (.int .i64 len : Value) from rfl); clear ht ho; simp only [execOp, e46]; go_simp; exact congrArg Value.bool (decide_eq_false (by omega)))
                    · (refine OpH.rd rfl rfl (fun ρ us w6 ho ht hc hl hsrc hW => ?_); have e44 := (ht 44 (by decide)).trans (show _ = (.bool false : Value) from rfl); have e47 := (ht 47 (by decide)).trans (show _ = (.bool false : Value) from rfl); clear ht ho; simp only [execOp, e44, e47]; go_simp; try rfl)
                    · (refine OpH.rd rfl rfl (fun ρ us w6 ho ht hc hl hsrc hW => ?_); have e48 := (ht 48 (by decide)).trans (show _ = (.bool false : Value) from rfl); clear ht ho; simp only [execOp, e48]; go_simp; try rfl)
                    · (refine OpH.rdg rfl 30 49 false rfl rfl (by decide) (fun _ _ _ => rfl) (fun ρ us w6 ho ht hc hl hsrc hW => ?_); have e7 := (ho 7 rfl).trans (show _ = (.pointer (some ⟨g7, 0, none⟩) : Value) from rfl); clear ht ho; simp only [execOp, e7]; go_simp; try rfl)
                    · (refine OpH.rdg rfl 30 49 false rfl rfl (by decide) (fun _ _ _ => rfl) (fun ρ us w6 ho ht hc hl hsrc hW => ?_); have e50 := (ht 50 (by decide)).trans (show _ = (.pointer (some ⟨g7, 3, none⟩) : Value) from rfl); have r7 := ROW7.out w6 hW.1; have z0 := cell_of_row _ _ 0 _ _ _ r7; have z1 := cell_of_row _ _ 1 _ _ _ r7; have z2 := cell_of_row _ _ 2 _ _ _ r7; have z3 := cell_of_row _ _ 3 _ _ _ r7; clear r7; clear ht ho; simp only [execOp, e50]; go_simp; try rfl)
                    · (refine OpH.rdg rfl 30 49 false rfl rfl (by decide) (fun _ _ _ => rfl) (fun ρ us w6 ho ht hc hl hsrc hW => ?_); have e51 := (ht 51 (by decide)).trans (show _ = (.slice A3 n3 c3 : Value) from rfl); clear ht ho; simp only [execOp]; go_simp; try rfl)
                    · (refine OpH.rdg rfl 30 49 false rfl rfl (by decide) (fun _ _ _ => rfl) (fun ρ us w6 ho ht hc hl hsrc hW => ?_); have e2 := (ho 2 rfl).trans (show _ = (.pointer (some ⟨w.heap.size, 0, none⟩) : Value) from rfl); have rr := HROW.out w6 (HB4.out.trans (hW.1.mono hm4)); have z0 := cell_of_row _ _ 0 _ _ _ rr.1; have z1 := cell_of_row _ _ 1 _ _ _ rr.1; have z2 := cell_of_row _ _ 2 _ _ _ rr.1; have x0 := cell_of_row _ _ 0 _ _ _ rr.2; have x1 := cell_of_row _ _ 1 _ _ _ rr.2; have x2 := cell_of_row _ _ 2 _ _ _ rr.2; have x3 := cell_of_row _ _ 3 _ _ _ rr.2; clear rr; clear ht ho; simp only [execOp, e2]; go_simp; try rfl)
                    · (refine OpH.rdg rfl 30 49 false rfl rfl (by decide) (fun _ _ _ => rfl) (fun ρ us w6 ho ht hc hl hsrc hW => ?_); have e7 := (ho 7 rfl).trans (show _ = (.pointer (some ⟨g7, 0, none⟩) : Value) from rfl); clear ht ho; simp only [execOp, e7]; go_simp; try rfl)
                    · (refine OpH.rdg rfl 30 49 false rfl rfl (by decide) (fun _ _ _ => rfl) (fun ρ us w6 ho ht hc hl hsrc hW => ?_); have e54 := (ht 54 (by decide)).trans (show _ = (.pointer (some ⟨g7, 1, none⟩) : Value) from rfl); have r7 := ROW7.out w6 hW.1; have z0 := cell_of_row _ _ 0 _ _ _ r7; have z1 := cell_of_row _ _ 1 _ _ _ r7; have z2 := cell_of_row _ _ 2 _ _ _ r7; have z3 := cell_of_row _ _ 3 _ _ _ r7; clear r7; clear ht ho; simp only [execOp, e54]; go_simp; try rfl)
                    · refine OpH.wr rfl (fun Z us w6 ho ht hni hlim hreq hW K hK => ?_)
                      have e53 := (ht 53 (by decide)).trans (show _ = (.agg #[.int .i64 s.K, .int .i64 s.M, .int .i64 s.size] : Value) from rfl)
                      have e55 := (ht 55 (by decide)).trans (show _ = (.int .i64 len : Value) from rfl)
                      have hcl := HMA.out w6 len (by omega) (by omega)
                      rw [HMN.out] at hcl
                      have eg := (ht 49 (by decide)).trans (show _ = (.bool false : Value) from rfl)
                      refine step_callw (GuardOk.wanted (.at_ (j := 30) (t := 49) (b := false) rfl rfl eg)) 52 #[.tmp 53, .tmp 55] #[23, 3] rfl Try.func52 (by kernel_rfl) (by kernel_rfl) #[.agg #[.int .i64 s.K, .int .i64 s.M, .int .i64 s.size], .int .i64 len] (by simp [e53, e55]; try rfl) hcl ?_
                      rintro e w7 ⟨rfl, hb7⟩
                      exact ⟨_, rfl, hK _ _ (hW.snoc hb7 (fun j v h => h) (⟨fun _ => rfl, fun h => absurd h (by decide)⟩))⟩
                    · (refine OpH.rdg rfl 30 49 false rfl rfl (by decide) (fun _ _ _ => rfl) (fun ρ us w6 ho ht hc hl hsrc hW => ?_); have e52 := (ht 52 (by decide)).trans (show _ = (.int .i64 (n3 : Int) : Value) from rfl); have e56 := (ht 56 (by decide)).trans (show _ = ((us.lookup 37).getD undef : Value) from rfl); rw [(hW.at_ (hsrc 37 (by exact (List.mem_singleton.2 rfl : (37 : Nat) ∈ [37])))).1 rfl] at e56; clear ht ho; simp only [execOp, e52, e56]; go_simp; try rfl)
                    · (refine OpH.rd rfl rfl (fun ρ us w6 ho ht hc hl hsrc hW => ?_); have e49 := (ht 49 (by decide)).trans (show _ = (.bool false : Value) from rfl); have e57 := (ht 57 (by decide)).trans (show _ = (.bool false : Value) from rfl); clear ht ho; simp only [execOp, e49, e57]; go_simp; try rfl)
                    · (refine OpH.rd rfl rfl (fun ρ us w6 ho ht hc hl hsrc hW => ?_); have e58 := (ht 58 (by decide)).trans (show _ = (.bool false : Value) from rfl); clear ht ho; simp only [execOp, e58]; go_simp; try rfl)
                    · (refine OpH.rdg rfl 40 59 false rfl rfl (by decide) (fun _ _ _ => rfl) (fun ρ us w6 ho ht hc hl hsrc hW => ?_); have e2 := (ho 2 rfl).trans (show _ = (.pointer (some ⟨w.heap.size, 0, none⟩) : Value) from rfl); have rr := HROW.out w6 (HB4.out.trans (hW.1.mono hm4)); have z0 := cell_of_row _ _ 0 _ _ _ rr.1; have z1 := cell_of_row _ _ 1 _ _ _ rr.1; have z2 := cell_of_row _ _ 2 _ _ _ rr.1; have x0 := cell_of_row _ _ 0 _ _ _ rr.2; have x1 := cell_of_row _ _ 1 _ _ _ rr.2; have x2 := cell_of_row _ _ 2 _ _ _ rr.2; have x3 := cell_of_row _ _ 3 _ _ _ rr.2; clear rr; clear ht ho; simp only [execOp, e2]; go_simp; try rfl)
                    · (refine OpH.rdg rfl 40 59 false rfl rfl (by decide) (fun _ _ _ => rfl) (fun ρ us w6 ho ht hc hl hsrc hW => ?_); have e3 := (ho 3 rfl).trans (show _ = (.pointer (some ⟨w.heap.size + 1, 0, none⟩) : Value) from rfl); have rr := HROW.out w6 (HB4.out.trans (hW.1.mono hm4)); have z0 := cell_of_row _ _ 0 _ _ _ rr.1; have z1 := cell_of_row _ _ 1 _ _ _ rr.1; have z2 := cell_of_row _ _ 2 _ _ _ rr.1; have x0 := cell_of_row _ _ 0 _ _ _ rr.2; have x1 := cell_of_row _ _ 1 _ _ _ rr.2; have x2 := cell_of_row _ _ 2 _ _ _ rr.2; have x3 := cell_of_row _ _ 3 _ _ _ rr.2; clear rr; clear ht ho; simp only [execOp, e3]; go_simp; try rfl)
                    · (refine OpH.rdg rfl 40 59 false rfl rfl (by decide) (fun _ _ _ => rfl) (fun ρ us w6 ho ht hc hl hsrc hW => ?_); have e7 := (ho 7 rfl).trans (show _ = (.pointer (some ⟨g7, 0, none⟩) : Value) from rfl); have r7 := ROW7.out w6 hW.1; have z0 := cell_of_row _ _ 0 _ _ _ r7; have z1 := cell_of_row _ _ 1 _ _ _ r7; have z2 := cell_of_row _ _ 2 _ _ _ r7; have z3 := cell_of_row _ _ 3 _ _ _ r7; clear r7; clear ht ho; simp only [execOp, e7]; go_simp; try rfl)
                    · refine OpH.wr rfl (fun Z us w6 ho ht hni hlim hreq hW K hK => ?_)
                      have e60 := (ht 60 (by decide)).trans (show _ = (.agg #[.int .i64 s.K, .int .i64 s.M, .int .i64 s.size] : Value) from rfl)
                      have e61 := (ht 61 (by decide)).trans (show _ = (.agg #[.slice A0 n0 c0, .slice (some ⟨bE, oE, none⟩) n1 c1, .slice A2 n2 c2, .int .i64 nx] : Value) from rfl)
                      have e62 := (ht 62 (by decide)).trans (show _ = (.agg #[.string dg, .int .i64 len, .bool man, .slice A3 n3 c3] : Value) from rfl)
                      have hcl := HLE.out w6 (HBW.out w6 (HB4.out.trans (hW.1.mono hm4))) len (by omega) (by omega) dg man A3 n3 c3 ys _ _ (HL34.out.all hW.1)
                      rw [HLF.out] at hcl
                      have eg := (ht 59 (by decide)).trans (show _ = (.bool false : Value) from rfl)
                      refine step_callw (GuardOk.wanted (.at_ (j := 40) (t := 59) (b := false) rfl rfl eg)) 53 #[.tmp 60, .tmp 61, .tmp 62] #[23, 28, 71] rfl Try.func53 (by kernel_rfl) (by kernel_rfl) #[.agg #[.int .i64 s.K, .int .i64 s.M, .int .i64 s.size], .agg #[.slice A0 n0 c0, .slice (some ⟨bE, oE, none⟩) n1 c1, .slice A2 n2 c2, .int .i64 nx], .agg #[.string dg, .int .i64 len, .bool man, .slice A3 n3 c3]] (by simp [e60, e61, e62]; try rfl) hcl ?_
                      rintro e w7 ⟨rfl, hb7⟩
                      exact ⟨_, rfl, hK _ _ (hW.snoc hb7 (fun j v h => h) (⟨fun h => absurd h (by decide), fun _ => rfl⟩))⟩
                    · (refine OpH.rdg rfl 40 59 false rfl rfl (by decide) (fun _ _ _ => rfl) (fun ρ us w6 ho ht hc hl hsrc hW => ?_); have e63 := (ht 63 (by decide)).trans (show _ = ((us.lookup 44).getD undef : Value) from rfl); rw [(hW.at_ (hsrc 44 (by exact (List.mem_singleton.2 rfl : (44 : Nat) ∈ [44])))).2 rfl] at e63; clear ht ho; simp only [execOp, e63]; go_simp; try rfl)
                    · (refine OpH.rd rfl rfl (fun ρ us w6 ho ht hc hl hsrc hW => ?_); have e59 := (ht 59 (by decide)).trans (show _ = (.bool false : Value) from rfl); have e64 := (ht 64 (by decide)).trans (show _ = (.bool true : Value) from rfl); clear ht ho; simp only [execOp, e59, e64]; go_simp; try rfl)
                    -- TSAF
                    · intro us w9 hmem hW
                      simp only [putAll, List.map_cons, List.map_nil, List.foldl_cons, List.foldl_nil, Act.put, List.setIfInBounds_toArray, List.set_cons_succ, List.set_cons_zero]
                      generalize hsv : slotAt _ _ us = sv
                      have hq : sv 65 = (.bool true : Value) := by rw [← hsv]; rfl
                      rw [hq]
                      have HB9 := Lib.hid hW.1
                      clear hsv hq hmem hW
                      go_wp2
                      go_meet
                      case rel => exact ⟨by rw [HAX.out]; rfl, HB9⟩
                · have cE' : ((n3 : Int) != (mn : Int)) = true := by simp; omega
                  rw [decide_eq_false cE] at hA3
                  have HAX : Hid (thingAt s l xs k = false) := Lib.hid hA3
                  clear hA3 cE
                  go_wp2_with fail
                  refine region_free (by kernel_rfl) (by kernel_rfl) 84 rfl [19, 20, 21, 22, 23, 24, 25, 26, 27, 28, 29, 30, 31, 32, 33, 34, 35, 36, 37, 38, 39, 40, 41, 42, 43, 44, 45, 46, 47, 48, 49, 50, 51, 52, 53, 54, 55, 56, 57, 58, 59, 60, 61, 62, 63, 64, 65] [37] [(56, 37)]
                    [(19, [], fun _ => .pointer (some ⟨g7, 0, none⟩)), (20, [], fun _ => .string dg), (21, [], fun _ => .int .i64 (dg.size : Int)), (22, [], fun _ => .bool false), (23, [], fun _ => .bool false), (24, [], fun _ => .int .i64 (k : Int)), (25, [], fun _ => .bool false), (26, [], fun _ => .bool false), (27, [], fun _ => undef), (28, [], fun _ => undef), (29, [], fun _ => undef), (30, [], fun _ => undef), (31, [], fun _ => undef), (32, [], fun _ => undef), (33, [], fun _ => undef), (34, [], fun _ => undef), (35, [], fun _ => undef), (36, [], fun _ => undef), (37, [], fun _ => .bool false), (38, [], fun _ => .bool false), (39, [], fun _ => .bool false), (40, [], fun _ => .pointer (some ⟨g7, 1, none⟩)), (41, [], fun _ => .int .i64 len), (42, [], fun _ => .bool false), (43, [], fun _ => .bool false), (44, [], fun _ => .bool false), (45, [], fun _ => .pointer (some ⟨g7, 1, none⟩)), (46, [], fun _ => .int .i64 len), (47, [], fun _ => .bool false), (48, [], fun _ => .bool false), (49, [], fun _ => .bool false), (50, [], fun _ => .pointer (some ⟨g7, 3, none⟩)), (51, [], fun _ => .slice A3 n3 c3), (52, [], fun _ => .int .i64 (n3 : Int)), (53, [], fun _ => .agg #[.int .i64 s.K, .int .i64 s.M, .int .i64 s.size]), (54, [], fun _ => .pointer (some ⟨g7, 1, none⟩)), (55, [], fun _ => .int .i64 len), (57, [37], fun _ => .bool true), (58, [], fun _ => .bool true), (59, [], fun _ => .bool true), (60, [], fun _ => undef), (61, [], fun _ => undef), (62, [], fun _ => undef), (63, [], fun _ => undef), (64, [], fun _ => undef), (65, [], fun _ => .bool true)]
                    [] [] [[], [19], [20], [21], [22], [23], [24, 23], [25, 23], [26], [27, 26], [26], [29, 26], [26], [31, 26], [30, 32, 26], [33, 26], [34, 26], [28, 35, 26], [26, 36, 23], [23, 37], [38], [39], [40, 39], [41, 39], [39, 42], [43], [44], [45, 44], [46, 44], [44, 47], [48], [49], [50, 49], [51, 49], [49], [49], [54, 49], [53, 55, 49], [52, 56, 49], [49, 57], [58], [59], [59], [59], [60, 61, 62, 59], [63, 59], [59, 64]]
                    (WdB w4 (fun i v _ => (i = 37 → v = .int .i64 (mn : Int)) ∧ (i = 44 → v = .bool false))) (by kernel_rfl) .init ⟨?_, ?_, ?_, ?_, ?_, ?_, ?_, ?_, ?_, ?_, ?_, ?_, ?_, ?_, ?_, ?_, ?_, ?_, ?_, ?_, ?_, ?_, ?_, ?_, ?_, ?_, ?_, ?_, ?_, ?_, ?_, ?_, ?_, ?_, ?_, ?_, ?_, ?_, ?_, ?_, ?_, ?_, ?_, ?_, ?_, ?_, ?_, trivial⟩ ?_
                  -- FAST47 cdot
                  · (refine OpH.rd rfl rfl (fun ρ us w6 ho ht hc hl hsrc hW => ?_); have e7 := (ho 7 rfl).trans (show _ = (.pointer (some ⟨g7, 0, none⟩) : Value) from rfl); clear ht ho; simp only [execOp, e7]; go_simp; try rfl)
                  · (refine OpH.rd rfl rfl (fun ρ us w6 ho ht hc hl hsrc hW => ?_); have e19 := (ht 19 (by decide)).trans (show _ = (.pointer (some ⟨g7, 0, none⟩) : Value) from rfl); have r7 := ROW7.out w6 hW.1; have z0 := cell_of_row _ _ 0 _ _ _ r7; have z1 := cell_of_row _ _ 1 _ _ _ r7; have z2 := cell_of_row _ _ 2 _ _ _ r7; have z3 := cell_of_row _ _ 3 _ _ _ r7; clear r7; clear ht ho; simp only [execOp, e19]; go_simp; try rfl)
                  · (refine OpH.rd rfl rfl (fun ρ us w6 ho ht hc hl hsrc hW => ?_); have e20 := (ht 20 (by decide)).trans (show _ = (.string dg : Value) from rfl); clear ht ho; simp only [execOp]; go_simp; try rfl)
                  · (refine OpH.rd rfl rfl (fun ρ us w6 ho ht hc hl hsrc hW => ?_); have e21 := (ht 21 (by decide)).trans (show _ = (.int .i64 (dg.size : Int) : Value) from rfl); clear ht ho; simp only [execOp, e21]; go_simp; try rfl)
                  · (refine OpH.rd rfl rfl (fun ρ us w6 ho ht hc hl hsrc hW => ?_); have e22 := (ht 22 (by decide)).trans (show _ = (.bool false : Value) from rfl); clear ht ho; simp only [execOp, e22]; go_simp; try rfl)
                  · (refine OpH.rdg rfl 4 23 false rfl rfl (by decide) (fun _ _ _ => rfl) (fun ρ us w6 ho ht hc hl hsrc hW => ?_); have e6 := (ho 6 rfl).trans (show _ = (.int .i64 (k : Int) : Value) from rfl); clear ht ho; simp only [execOp, e6]; go_simp; try rfl)
                  · (refine OpH.rdg rfl 4 23 false rfl rfl (by decide) (fun _ _ _ => rfl) (fun ρ us w6 ho ht hc hl hsrc hW => ?_); have e24 := (ht 24 (by decide)).trans (show _ = (.int .i64 (k : Int) : Value) from rfl); clear ht ho; simp only [execOp, e24]; go_simp; exact congrArg Value.bool (decide_eq_false (by omega)))
                  · (refine OpH.rdg rfl 4 23 false rfl rfl (by decide) (fun _ _ _ => rfl) (fun ρ us w6 ho ht hc hl hsrc hW => ?_); have e25 := (ht 25 (by decide)).trans (show _ = (.bool false : Value) from rfl); clear ht ho; simp only [execOp, e25]; go_simp; try rfl)
                  · (exact OpH.rdn rfl 7 26 true rfl rfl (by decide) (fun _ _ _ => rfl) (fun _ => rfl))
                  · (exact OpH.rdn rfl 7 26 true rfl rfl (by decide) (fun _ _ _ => rfl) (fun _ => rfl))
                  · (exact OpH.rdn rfl 7 26 true rfl rfl (by decide) (fun _ _ _ => rfl) (fun _ => rfl))
                  · (exact OpH.rdn rfl 7 26 true rfl rfl (by decide) (fun _ _ _ => rfl) (fun _ => rfl))
                  · (exact OpH.rdn rfl 7 26 true rfl rfl (by decide) (fun _ _ _ => rfl) (fun _ => rfl))
                  · (exact OpH.rdn rfl 7 26 true rfl rfl (by decide) (fun _ _ _ => rfl) (fun _ => rfl))
                  · (exact OpH.rdn rfl 7 26 true rfl rfl (by decide) (fun _ _ _ => rfl) (fun _ => rfl))
                  · (exact OpH.rdn rfl 7 26 true rfl rfl (by decide) (fun _ _ _ => rfl) (fun _ => rfl))
                  · (exact OpH.rdn rfl 7 26 true rfl rfl (by decide) (fun _ _ _ => rfl) (fun _ => rfl))
                  · (exact OpH.rdn rfl 7 26 true rfl rfl (by decide) (fun _ _ _ => rfl) (fun _ => rfl))
                  · (refine OpH.rdg rfl 4 23 false rfl rfl (by decide) (fun _ _ _ => rfl) (fun ρ us w6 ho ht hc hl hsrc hW => ?_); have e26 := (ht 26 (by decide)).trans (show _ = (.bool false : Value) from rfl); have e36 := (ht 36 (by decide)).trans (show _ = (undef : Value) from rfl); clear ht ho; simp only [execOp, e26, e36]; go_simp; try rfl)
                  · (refine OpH.rd rfl rfl (fun ρ us w6 ho ht hc hl hsrc hW => ?_); have e23 := (ht 23 (by decide)).trans (show _ = (.bool false : Value) from rfl); have e37 := (ht 37 (by decide)).trans (show _ = (.bool false : Value) from rfl); clear ht ho; simp only [execOp, e23, e37]; go_simp; try rfl)
                  · (refine OpH.rd rfl rfl (fun ρ us w6 ho ht hc hl hsrc hW => ?_); have e38 := (ht 38 (by decide)).trans (show _ = (.bool false : Value) from rfl); clear ht ho; simp only [execOp, e38]; go_simp; try rfl)
                  · (refine OpH.rdg rfl 20 39 false rfl rfl (by decide) (fun _ _ _ => rfl) (fun ρ us w6 ho ht hc hl hsrc hW => ?_); have e7 := (ho 7 rfl).trans (show _ = (.pointer (some ⟨g7, 0, none⟩) : Value) from rfl); clear ht ho; simp only [execOp, e7]; go_simp; try rfl)
                  · (refine OpH.rdg rfl 20 39 false rfl rfl (by decide) (fun _ _ _ => rfl) (fun ρ us w6 ho ht hc hl hsrc hW => ?_); have e40 := (ht 40 (by decide)).trans (show _ = (.pointer (some ⟨g7, 1, none⟩) : Value) from rfl); have r7 := ROW7.out w6 hW.1; have z0 := cell_of_row _ _ 0 _ _ _ r7; have z1 := cell_of_row _ _ 1 _ _ _ r7; have z2 := cell_of_row _ _ 2 _ _ _ r7; have z3 := cell_of_row _ _ 3 _ _ _ r7; clear r7; clear ht ho; simp only [execOp, e40]; go_simp; try rfl)
                  · (refine OpH.rdg rfl 20 39 false rfl rfl (by decide) (fun _ _ _ => rfl) (fun ρ us w6 ho ht hc hl hsrc hW => ?_); have e41 := (ht 41 (by decide)).trans (show _ = (.int .i64 len : Value) from rfl); clear ht ho; simp only [execOp, e41]; go_simp; exact congrArg Value.bool (decide_eq_false (by omega)))
                  · (refine OpH.rd rfl rfl (fun ρ us w6 ho ht hc hl hsrc hW => ?_); have e39 := (ht 39 (by decide)).trans (show _ = (.bool false : Value) from rfl); have e42 := (ht 42 (by decide)).trans (show _ = (.bool false : Value) from rfl); clear ht ho; simp only [execOp, e39, e42]; go_simp; try rfl)
                  · (refine OpH.rd rfl rfl (fun ρ us w6 ho ht hc hl hsrc hW => ?_); have e43 := (ht 43 (by decide)).trans (show _ = (.bool false : Value) from rfl); clear ht ho; simp only [execOp, e43]; go_simp; try rfl)
                  · (refine OpH.rdg rfl 25 44 false rfl rfl (by decide) (fun _ _ _ => rfl) (fun ρ us w6 ho ht hc hl hsrc hW => ?_); have e7 := (ho 7 rfl).trans (show _ = (.pointer (some ⟨g7, 0, none⟩) : Value) from rfl); clear ht ho; simp only [execOp, e7]; go_simp; try rfl)
                  · (refine OpH.rdg rfl 25 44 false rfl rfl (by decide) (fun _ _ _ => rfl) (fun ρ us w6 ho ht hc hl hsrc hW => ?_); have e45 := (ht 45 (by decide)).trans (show _ = (.pointer (some ⟨g7, 1, none⟩) : Value) from rfl); have r7 := ROW7.out w6 hW.1; have z0 := cell_of_row _ _ 0 _ _ _ r7; have z1 := cell_of_row _ _ 1 _ _ _ r7; have z2 := cell_of_row _ _ 2 _ _ _ r7; have z3 := cell_of_row _ _ 3 _ _ _ r7; clear r7; clear ht ho; simp only [execOp, e45]; go_simp; try rfl)
                  · (refine OpH.rdg rfl 25 44 false rfl rfl (by decide) (fun _ _ _ => rfl) (fun ρ us w6 ho ht hc hl hsrc hW => ?_); have e46 := (ht 46 (by decide)).trans (show _ = (.int .i64 len : Value) from rfl); clear ht ho; simp only [execOp, e46]; go_simp; exact congrArg Value.bool (decide_eq_false (by omega)))
                  · (refine OpH.rd rfl rfl (fun ρ us w6 ho ht hc hl hsrc hW => ?_); have e44 := (ht 44 (by decide)).trans (show _ = (.bool false : Value) from rfl); have e47 := (ht 47 (by decide)).trans (show _ = (.bool false : Value) from rfl); clear ht ho; simp only [execOp, e44, e47]; go_simp; try rfl)
                  · (refine OpH.rd rfl rfl (fun ρ us w6 ho ht hc hl hsrc hW => ?_); have e48 := (ht 48 (by decide)).trans (show _ = (.bool false : Value) from rfl); clear ht ho; simp only [execOp, e48]; go_simp; try rfl)
                  · (refine OpH.rdg rfl 30 49 false rfl rfl (by decide) (fun _ _ _ => rfl) (fun ρ us w6 ho ht hc hl hsrc hW => ?_); have e7 := (ho 7 rfl).trans (show _ = (.pointer (some ⟨g7, 0, none⟩) : Value) from rfl); clear ht ho; simp only [execOp, e7]; go_simp; try rfl)
                  · (refine OpH.rdg rfl 30 49 false rfl rfl (by decide) (fun _ _ _ => rfl) (fun ρ us w6 ho ht hc hl hsrc hW => ?_); have e50 := (ht 50 (by decide)).trans (show _ = (.pointer (some ⟨g7, 3, none⟩) : Value) from rfl); have r7 := ROW7.out w6 hW.1; have z0 := cell_of_row _ _ 0 _ _ _ r7; have z1 := cell_of_row _ _ 1 _ _ _ r7; have z2 := cell_of_row _ _ 2 _ _ _ r7; have z3 := cell_of_row _ _ 3 _ _ _ r7; clear r7; clear ht ho; simp only [execOp, e50]; go_simp; try rfl)
                  · (refine OpH.rdg rfl 30 49 false rfl rfl (by decide) (fun _ _ _ => rfl) (fun ρ us w6 ho ht hc hl hsrc hW => ?_); have e51 := (ht 51 (by decide)).trans (show _ = (.slice A3 n3 c3 : Value) from rfl); clear ht ho; simp only [execOp]; go_simp; try rfl)
                  · (refine OpH.rdg rfl 30 49 false rfl rfl (by decide) (fun _ _ _ => rfl) (fun ρ us w6 ho ht hc hl hsrc hW => ?_); have e2 := (ho 2 rfl).trans (show _ = (.pointer (some ⟨w.heap.size, 0, none⟩) : Value) from rfl); have rr := HROW.out w6 (HB4.out.trans (hW.1.mono hm4)); have z0 := cell_of_row _ _ 0 _ _ _ rr.1; have z1 := cell_of_row _ _ 1 _ _ _ rr.1; have z2 := cell_of_row _ _ 2 _ _ _ rr.1; have x0 := cell_of_row _ _ 0 _ _ _ rr.2; have x1 := cell_of_row _ _ 1 _ _ _ rr.2; have x2 := cell_of_row _ _ 2 _ _ _ rr.2; have x3 := cell_of_row _ _ 3 _ _ _ rr.2; clear rr; clear ht ho; simp only [execOp, e2]; go_simp; try rfl)
                  · (refine OpH.rdg rfl 30 49 false rfl rfl (by decide) (fun _ _ _ => rfl) (fun ρ us w6 ho ht hc hl hsrc hW => ?_); have e7 := (ho 7 rfl).trans (show _ = (.pointer (some ⟨g7, 0, none⟩) : Value) from rfl); clear ht ho; simp only [execOp, e7]; go_simp; try rfl)
                  · (refine OpH.rdg rfl 30 49 false rfl rfl (by decide) (fun _ _ _ => rfl) (fun ρ us w6 ho ht hc hl hsrc hW => ?_); have e54 := (ht 54 (by decide)).trans (show _ = (.pointer (some ⟨g7, 1, none⟩) : Value) from rfl); have r7 := ROW7.out w6 hW.1; have z0 := cell_of_row _ _ 0 _ _ _ r7; have z1 := cell_of_row _ _ 1 _ _ _ r7; have z2 := cell_of_row _ _ 2 _ _ _ r7; have z3 := cell_of_row _ _ 3 _ _ _ r7; clear r7; clear ht ho; simp only [execOp, e54]; go_simp; try rfl)
                  · refine OpH.wr rfl (fun Z us w6 ho ht hni hlim hreq hW K hK => ?_)
                    have e53 := (ht 53 (by decide)).trans (show _ = (.agg #[.int .i64 s.K, .int .i64 s.M, .int .i64 s.size] : Value) from rfl)
                    have e55 := (ht 55 (by decide)).trans (show _ = (.int .i64 len : Value) from rfl)
                    have hcl := HMA.out w6 len (by omega) (by omega)
                    rw [HMN.out] at hcl
                    have eg := (ht 49 (by decide)).trans (show _ = (.bool false : Value) from rfl)
                    refine step_callw (GuardOk.wanted (.at_ (j := 30) (t := 49) (b := false) rfl rfl eg)) 52 #[.tmp 53, .tmp 55] #[23, 3] rfl Try.func52 (by kernel_rfl) (by kernel_rfl) #[.agg #[.int .i64 s.K, .int .i64 s.M, .int .i64 s.size], .int .i64 len] (by simp [e53, e55]; try rfl) hcl ?_
                    rintro e w7 ⟨rfl, hb7⟩
                    exact ⟨_, rfl, hK _ _ (hW.snoc hb7 (fun j v h => h) (⟨fun _ => rfl, fun h => absurd h (by decide)⟩))⟩
                  · (refine OpH.rdg rfl 30 49 false rfl rfl (by decide) (fun _ _ _ => rfl) (fun ρ us w6 ho ht hc hl hsrc hW => ?_); have e52 := (ht 52 (by decide)).trans (show _ = (.int .i64 (n3 : Int) : Value) from rfl); have e56 := (ht 56 (by decide)).trans (show _ = ((us.lookup 37).getD undef : Value) from rfl); rw [(hW.at_ (hsrc 37 (by exact (List.mem_singleton.2 rfl : (37 : Nat) ∈ [37])))).1 rfl] at e56; clear ht ho; simp only [execOp, e52, e56]; go_simp; try rfl)
                  · (refine OpH.rd rfl rfl (fun ρ us w6 ho ht hc hl hsrc hW => ?_); have e49 := (ht 49 (by decide)).trans (show _ = (.bool false : Value) from rfl); have e57 := (ht 57 (by decide)).trans (show _ = (.bool true : Value) from rfl); clear ht ho; simp only [execOp, e49, e57]; go_simp; try rfl)
                  · (refine OpH.rd rfl rfl (fun ρ us w6 ho ht hc hl hsrc hW => ?_); have e58 := (ht 58 (by decide)).trans (show _ = (.bool true : Value) from rfl); clear ht ho; simp only [execOp, e58]; go_simp; try rfl)
                  · (exact OpH.rdn rfl 40 59 false rfl rfl (by decide) (fun _ _ _ => rfl) (fun _ => rfl))
                  · (exact OpH.rdn rfl 40 59 false rfl rfl (by decide) (fun _ _ _ => rfl) (fun _ => rfl))
                  · (exact OpH.rdn rfl 40 59 false rfl rfl (by decide) (fun _ _ _ => rfl) (fun _ => rfl))
                  · (exact OpH.rdn rfl 40 59 false rfl rfl (by decide) (fun _ _ _ => rfl) (fun _ => rfl))
                  · (exact OpH.rdn rfl 40 59 false rfl rfl (by decide) (fun _ _ _ => rfl) (fun _ => rfl))
                  · (refine OpH.rd rfl rfl (fun ρ us w6 ho ht hc hl hsrc hW => ?_); have e59 := (ht 59 (by decide)).trans (show _ = (.bool true : Value) from rfl); have e64 := (ht 64 (by decide)).trans (show _ = (undef : Value) from rfl); clear ht ho; simp only [execOp, e59, e64]; go_simp; try rfl)
                  -- TSAF
                  · intro us w9 hmem hW
                    simp only [putAll, List.map_cons, List.map_nil, List.foldl_cons, List.foldl_nil, Act.put, List.setIfInBounds_toArray, List.set_cons_succ, List.set_cons_zero]
                    generalize hsv : slotAt _ _ us = sv
                    have hq : sv 65 = (.bool true : Value) := by rw [← hsv]; rfl
                    rw [hq]
                    have HB9 := Lib.hid hW.1
                    clear hsv hq hmem hW
                    go_wp2
                    go_meet
                    case rel => exact ⟨by rw [HAX.out]; rfl, HB9⟩
          · have hk0' : 0 < (k : Int) := by omega
            have hc := hp2 (by omega)
            have e1 : (k : Int) - 1 = ((k - 1 : Nat) : Int) := by omega
            have hle := str_leq pd dg
            have HPC := Lib.hid (fun V (hV : Below w4.heap.size w4 V) => (hV.cell (p := ⟨bE, oE + (k - 1) * 4, none⟩) hbE4).trans hc)
            rw [decide_eq_false hk0] at hA1
            generalize strLt pd dg = sl at *
            clear hp2 hk0 hc
            cases sl with
            | false =>
              have HAX : Hid (thingAt s l xs k = false) := Lib.hid hA1
              rw [show (!false) = true from rfl] at hle
              clear hA1
              go_wp2_with fail
              refine region_free (by kernel_rfl) (by kernel_rfl) 84 rfl [19, 20, 21, 22, 23, 24, 25, 26, 27, 28, 29, 30, 31, 32, 33, 34, 35, 36, 37, 38, 39, 40, 41, 42, 43, 44, 45, 46, 47, 48, 49, 50, 51, 52, 53, 54, 55, 56, 57, 58, 59, 60, 61, 62, 63, 64, 65] [] []
                [(19, [], fun _ => .pointer (some ⟨g7, 0, none⟩)), (20, [], fun _ => .string dg), (21, [], fun _ => .int .i64 (dg.size : Int)), (22, [], fun _ => .bool false), (23, [], fun _ => .bool false), (24, [], fun _ => .int .i64 (k : Int)), (25, [], fun _ => .bool true), (26, [], fun _ => .bool true), (27, [], fun _ => .pointer (some ⟨g7, 0, none⟩)), (28, [], fun _ => .string dg), (29, [], fun _ => .pointer (some ⟨w.heap.size + 1, 1, none⟩)), (30, [], fun _ => .slice (some ⟨bE, oE, none⟩) n1 c1), (31, [], fun _ => .int .i64 (k : Int)), (32, [], fun _ => .int .i64 ((k - 1 : Nat) : Int)), (33, [], fun _ => .pointer (some ⟨bE, oE + (k - 1) * 4, none⟩)), (34, [], fun _ => .pointer (some ⟨bE, oE + (k - 1) * 4, none⟩)), (35, [], fun _ => .string pd), (36, [], fun _ => .bool true), (37, [], fun _ => .bool true), (38, [], fun _ => .bool true), (39, [], fun _ => .bool true), (40, [], fun _ => undef), (41, [], fun _ => undef), (42, [], fun _ => undef), (43, [], fun _ => .bool true), (44, [], fun _ => .bool true), (45, [], fun _ => undef), (46, [], fun _ => undef), (47, [], fun _ => undef), (48, [], fun _ => .bool true), (49, [], fun _ => .bool true), (50, [], fun _ => undef), (51, [], fun _ => undef), (52, [], fun _ => undef), (53, [], fun _ => undef), (54, [], fun _ => undef), (55, [], fun _ => undef), (56, [], fun _ => undef), (57, [], fun _ => undef), (58, [], fun _ => .bool true), (59, [], fun _ => .bool true), (60, [], fun _ => undef), (61, [], fun _ => undef), (62, [], fun _ => undef), (63, [], fun _ => undef), (64, [], fun _ => undef), (65, [], fun _ => .bool true)]
                [] [] [[], [19], [20], [21], [22], [23], [24, 23], [25, 23], [26], [27, 26], [26], [29, 26], [26], [31, 26], [30, 32, 26], [33, 26], [34, 26], [28, 35, 26], [26, 36, 23], [23, 37], [38], [39], [40, 39], [41, 39], [39, 42], [43], [44], [45, 44], [46, 44], [44, 47], [48], [49], [50, 49], [51, 49], [49], [49], [54, 49], [53, 55, 49], [52, 56, 49], [49, 57], [58], [59], [59], [59], [60, 61, 62, 59], [63, 59], [59, 64]]
                (WdB w4 (fun _ _ _ => True)) (by kernel_rfl) .init ⟨?_, ?_, ?_, ?_, ?_, ?_, ?_, ?_, ?_, ?_, ?_, ?_, ?_, ?_, ?_, ?_, ?_, ?_, ?_, ?_, ?_, ?_, ?_, ?_, ?_, ?_, ?_, ?_, ?_, ?_, ?_, ?_, ?_, ?_, ?_, ?_, ?_, ?_, ?_, ?_, ?_, ?_, ?_, ?_, ?_, ?_, ?_, trivial⟩ ?_
              -- FAST47 cdot
              · (refine OpH.rd rfl rfl (fun ρ us w6 ho ht hc hl hsrc hW => ?_); have e7 := (ho 7 rfl).trans (show _ = (.pointer (some ⟨g7, 0, none⟩) : Value) from rfl); clear ht ho; simp only [execOp, e7]; go_simp; try rfl)
              · (refine OpH.rd rfl rfl (fun ρ us w6 ho ht hc hl hsrc hW => ?_); have e19 := (ht 19 (by decide)).trans (show _ = (.pointer (some ⟨g7, 0, none⟩) : Value) from rfl); have r7 := ROW7.out w6 hW.1; have z0 := cell_of_row _ _ 0 _ _ _ r7; have z1 := cell_of_row _ _ 1 _ _ _ r7; have z2 := cell_of_row _ _ 2 _ _ _ r7; have z3 := cell_of_row _ _ 3 _ _ _ r7; clear r7; clear ht ho; simp only [execOp, e19]; go_simp; try rfl)
              · (refine OpH.rd rfl rfl (fun ρ us w6 ho ht hc hl hsrc hW => ?_); have e20 := (ht 20 (by decide)).trans (show _ = (.string dg : Value) from rfl); clear ht ho; simp only [execOp]; go_simp; try rfl)
              · (refine OpH.rd rfl rfl (fun ρ us w6 ho ht hc hl hsrc hW => ?_); have e21 := (ht 21 (by decide)).trans (show _ = (.int .i64 (dg.size : Int) : Value) from rfl); clear ht ho; simp only [execOp, e21]; go_simp; try rfl)
              · (refine OpH.rd rfl rfl (fun ρ us w6 ho ht hc hl hsrc hW => ?_); have e22 := (ht 22 (by decide)).trans (show _ = (.bool false : Value) from rfl); clear ht ho; simp only [execOp, e22]; go_simp; try rfl)
              · (refine OpH.rdg rfl 4 23 false rfl rfl (by decide) (fun _ _ _ => rfl) (fun ρ us w6 ho ht hc hl hsrc hW => ?_); have e6 := (ho 6 rfl).trans (show _ = (.int .i64 (k : Int) : Value) from rfl); clear ht ho; simp only [execOp, e6]; go_simp; try rfl)
              · (refine OpH.rdg rfl 4 23 false rfl rfl (by decide) (fun _ _ _ => rfl) (fun ρ us w6 ho ht hc hl hsrc hW => ?_); have e24 := (ht 24 (by decide)).trans (show _ = (.int .i64 (k : Int) : Value) from rfl); clear ht ho; simp only [execOp, e24]; go_simp; exact congrArg Value.bool (decide_eq_true (by omega)))
              · (refine OpH.rdg rfl 4 23 false rfl rfl (by decide) (fun _ _ _ => rfl) (fun ρ us w6 ho ht hc hl hsrc hW => ?_); have e25 := (ht 25 (by decide)).trans (show _ = (.bool true : Value) from rfl); clear ht ho; simp only [execOp, e25]; go_simp; try rfl)
              · (refine OpH.rdg rfl 7 26 true rfl rfl (by decide) (fun _ _ _ => rfl) (fun ρ us w6 ho ht hc hl hsrc hW => ?_); have e7 := (ho 7 rfl).trans (show _ = (.pointer (some ⟨g7, 0, none⟩) : Value) from rfl); clear ht ho; simp only [execOp, e7]; go_simp; try rfl)
              · (refine OpH.rdg rfl 7 26 true rfl rfl (by decide) (fun _ _ _ => rfl) (fun ρ us w6 ho ht hc hl hsrc hW => ?_); have e27 := (ht 27 (by decide)).trans (show _ = (.pointer (some ⟨g7, 0, none⟩) : Value) from rfl); have r7 := ROW7.out w6 hW.1; have z0 := cell_of_row _ _ 0 _ _ _ r7; have z1 := cell_of_row _ _ 1 _ _ _ r7; have z2 := cell_of_row _ _ 2 _ _ _ r7; have z3 := cell_of_row _ _ 3 _ _ _ r7; clear r7; clear ht ho; simp only [execOp, e27]; go_simp; try rfl)
              · (refine OpH.rdg rfl 7 26 true rfl rfl (by decide) (fun _ _ _ => rfl) (fun ρ us w6 ho ht hc hl hsrc hW => ?_); have e3 := (ho 3 rfl).trans (show _ = (.pointer (some ⟨w.heap.size + 1, 0, none⟩) : Value) from rfl); clear ht ho; simp only [execOp, e3]; go_simp; try rfl)
              · (refine OpH.rdg rfl 7 26 true rfl rfl (by decide) (fun _ _ _ => rfl) (fun ρ us w6 ho ht hc hl hsrc hW => ?_); have e29 := (ht 29 (by decide)).trans (show _ = (.pointer (some ⟨w.heap.size + 1, 1, none⟩) : Value) from rfl); have rr := HROW.out w6 (HB4.out.trans (hW.1.mono hm4)); have z0 := cell_of_row _ _ 0 _ _ _ rr.1; have z1 := cell_of_row _ _ 1 _ _ _ rr.1; have z2 := cell_of_row _ _ 2 _ _ _ rr.1; have x0 := cell_of_row _ _ 0 _ _ _ rr.2; have x1 := cell_of_row _ _ 1 _ _ _ rr.2; have x2 := cell_of_row _ _ 2 _ _ _ rr.2; have x3 := cell_of_row _ _ 3 _ _ _ rr.2; clear rr; clear ht ho; simp only [execOp, e29]; go_simp; try rfl)
              · (refine OpH.rdg rfl 7 26 true rfl rfl (by decide) (fun _ _ _ => rfl) (fun ρ us w6 ho ht hc hl hsrc hW => ?_); have e6 := (ho 6 rfl).trans (show _ = (.int .i64 (k : Int) : Value) from rfl); clear ht ho; simp only [execOp, e6]; go_simp; try rfl)
              · (refine OpH.rdg rfl 7 26 true rfl rfl (by decide) (fun _ _ _ => rfl) (fun ρ us w6 ho ht hc hl hsrc hW => ?_); have e31 := (ht 31 (by decide)).trans (show _ = (.int .i64 (k : Int) : Value) from rfl); clear ht ho; simp only [execOp, e31]; go_simp; rw [Go.IntWalk.i64_in _ (by omega)]; rfl)
              · (refine OpH.rdg rfl 7 26 true rfl rfl (by decide) (fun _ _ _ => rfl) (fun ρ us w6 ho ht hc hl hsrc hW => ?_); have e30 := (ht 30 (by decide)).trans (show _ = (.slice (some ⟨bE, oE, none⟩) n1 c1 : Value) from rfl); have e32 := (ht 32 (by decide)).trans (show _ = (.int .i64 ((k - 1 : Nat) : Int) : Value) from rfl); clear ht ho; simp only [execOp, e30, e32]; go_simp; rw [if_pos (by omega)]; rfl)
              · (refine OpH.rdg rfl 7 26 true rfl rfl (by decide) (fun _ _ _ => rfl) (fun ρ us w6 ho ht hc hl hsrc hW => ?_); have e33 := (ht 33 (by decide)).trans (show _ = (.pointer (some ⟨bE, oE + (k - 1) * 4, none⟩) : Value) from rfl); clear ht ho; simp only [execOp, e33]; go_simp; try rfl)
              · (refine OpH.rdg rfl 7 26 true rfl rfl (by decide) (fun _ _ _ => rfl) (fun ρ us w6 ho ht hc hl hsrc hW => ?_); have e34 := (ht 34 (by decide)).trans (show _ = (.pointer (some ⟨bE, oE + (k - 1) * 4, none⟩) : Value) from rfl); have z2 := HPC.out w6 hW.1; clear ht ho; simp only [execOp, e34]; go_simp; try rfl)
              · (refine OpH.rdg rfl 7 26 true rfl rfl (by decide) (fun _ _ _ => rfl) (fun ρ us w6 ho ht hc hl hsrc hW => ?_); have e28 := (ht 28 (by decide)).trans (show _ = (.string dg : Value) from rfl); have e35 := (ht 35 (by decide)).trans (show _ = (.string pd : Value) from rfl); clear ht ho; simp only [execOp, e28, e35]; go_simp; rw [run_leq]; simp only [Result.andThen, hle]; rfl)
              · (refine OpH.rdg rfl 4 23 false rfl rfl (by decide) (fun _ _ _ => rfl) (fun ρ us w6 ho ht hc hl hsrc hW => ?_); have e26 := (ht 26 (by decide)).trans (show _ = (.bool true : Value) from rfl); have e36 := (ht 36 (by decide)).trans (show _ = (.bool true : Value) from rfl); clear ht ho; simp only [execOp, e26, e36]; go_simp; try rfl)
              · (refine OpH.rd rfl rfl (fun ρ us w6 ho ht hc hl hsrc hW => ?_); have e23 := (ht 23 (by decide)).trans (show _ = (.bool false : Value) from rfl); have e37 := (ht 37 (by decide)).trans (show _ = (.bool true : Value) from rfl); clear ht ho; simp only [execOp, e23, e37]; go_simp; try rfl)
              · (refine OpH.rd rfl rfl (fun ρ us w6 ho ht hc hl hsrc hW => ?_); have e38 := (ht 38 (by decide)).trans (show _ = (.bool true : Value) from rfl); clear ht ho; simp only [execOp, e38]; go_simp; try rfl)
              · (exact OpH.rdn rfl 20 39 false rfl rfl (by decide) (fun _ _ _ => rfl) (fun _ => rfl))
              · (exact OpH.rdn rfl 20 39 false rfl rfl (by decide) (fun _ _ _ => rfl) (fun _ => rfl))
              · (exact OpH.rdn rfl 20 39 false rfl rfl (by decide) (fun _ _ _ => rfl) (fun _ => rfl))
              · (refine OpH.rd rfl rfl (fun ρ us w6 ho ht hc hl hsrc hW => ?_); have e39 := (ht 39 (by decide)).trans (show _ = (.bool true : Value) from rfl); have e42 := (ht 42 (by decide)).trans (show _ = (undef : Value) from rfl); clear ht ho; simp only [execOp, e39, e42]; go_simp; try rfl)
              · (refine OpH.rd rfl rfl (fun ρ us w6 ho ht hc hl hsrc hW => ?_); have e43 := (ht 43 (by decide)).trans (show _ = (.bool true : Value) from rfl); clear ht ho; simp only [execOp, e43]; go_simp; try rfl)
              · (exact OpH.rdn rfl 25 44 false rfl rfl (by decide) (fun _ _ _ => rfl) (fun _ => rfl))
              · (exact OpH.rdn rfl 25 44 false rfl rfl (by decide) (fun _ _ _ => rfl) (fun _ => rfl))
              · (exact OpH.rdn rfl 25 44 false rfl rfl (by decide) (fun _ _ _ => rfl) (fun _ => rfl))
              · (refine OpH.rd rfl rfl (fun ρ us w6 ho ht hc hl hsrc hW => ?_); have e44 := (ht 44 (by decide)).trans (show _ = (.bool true : Value) from rfl); have e47 := (ht 47 (by decide)).trans (show _ = (undef : Value) from rfl); clear ht ho; simp only [execOp, e44, e47]; go_simp; try rfl)
              · (refine OpH.rd rfl rfl (fun ρ us w6 ho ht hc hl hsrc hW => ?_); have e48 := (ht 48 (by decide)).trans (show _ = (.bool true : Value) from rfl); clear ht ho; simp only [execOp, e48]; go_simp; try rfl)
              · (exact OpH.rdn rfl 30 49 false rfl rfl (by decide) (fun _ _ _ => rfl) (fun _ => rfl))
              · (exact OpH.rdn rfl 30 49 false rfl rfl (by decide) (fun _ _ _ => rfl) (fun _ => rfl))
              · (exact OpH.rdn rfl 30 49 false rfl rfl (by decide) (fun _ _ _ => rfl) (fun _ => rfl))
              · (exact OpH.rdn rfl 30 49 false rfl rfl (by decide) (fun _ _ _ => rfl) (fun _ => rfl))
              · (exact OpH.rdn rfl 30 49 false rfl rfl (by decide) (fun _ _ _ => rfl) (fun _ => rfl))
              · (exact OpH.rdn rfl 30 49 false rfl rfl (by decide) (fun _ _ _ => rfl) (fun _ => rfl))
              · (exact OpH.rdn rfl 30 49 false rfl rfl (by decide) (fun _ _ _ => rfl) (fun _ => rfl))
              · (exact OpH.rdn rfl 30 49 false rfl rfl (by decide) (fun _ _ _ => rfl) (fun _ => rfl))
              · (refine OpH.rd rfl rfl (fun ρ us w6 ho ht hc hl hsrc hW => ?_); have e49 := (ht 49 (by decide)).trans (show _ = (.bool true : Value) from rfl); have e57 := (ht 57 (by decide)).trans (show _ = (undef : Value) from rfl); clear ht ho; simp only [execOp, e49, e57]; go_simp; try rfl)
              · (refine OpH.rd rfl rfl (fun ρ us w6 ho ht hc hl hsrc hW => ?_); have e58 := (ht 58 (by decide)).trans (show _ = (.bool true : Value) from rfl); clear ht ho; simp only [execOp, e58]; go_simp; try rfl)
              · (exact OpH.rdn rfl 40 59 false rfl rfl (by decide) (fun _ _ _ => rfl) (fun _ => rfl))
              · (exact OpH.rdn rfl 40 59 false rfl rfl (by decide) (fun _ _ _ => rfl) (fun _ => rfl))
              · (exact OpH.rdn rfl 40 59 false rfl rfl (by decide) (fun _ _ _ => rfl) (fun _ => rfl))
              · (exact OpH.rdn rfl 40 59 false rfl rfl (by decide) (fun _ _ _ => rfl) (fun _ => rfl))
              · (exact OpH.rdn rfl 40 59 false rfl rfl (by decide) (fun _ _ _ => rfl) (fun _ => rfl))
              · (refine OpH.rd rfl rfl (fun ρ us w6 ho ht hc hl hsrc hW => ?_); have e59 := (ht 59 (by decide)).trans (show _ = (.bool true : Value) from rfl); have e64 := (ht 64 (by decide)).trans (show _ = (undef : Value) from rfl); clear ht ho; simp only [execOp, e59, e64]; go_simp; try rfl)
              -- TSAF
              · intro us w9 hmem hW
                simp only [putAll, List.map_cons, List.map_nil, List.foldl_cons, List.foldl_nil, Act.put, List.setIfInBounds_toArray, List.set_cons_succ, List.set_cons_zero]
                generalize hsv : slotAt _ _ us = sv
                have hq : sv 65 = (.bool true : Value) := by rw [← hsv]; rfl
                rw [hq]
                have HB9 := Lib.hid hW.1
                clear hsv hq hmem hW
                go_wp2
                go_meet
                case rel => exact ⟨by rw [HAX.out]; rfl, HB9⟩
            | true =>
              have HA2 : Hid (thingAt s l xs k = (decide (0 ≤ len) && (decide (len ≤ 2000) && (decide (n3 = manyX s len) && lensF (s.K * s.size) l ys len)))) := Lib.hid hA1
              rw [show (!true) = false from rfl] at hle
              clear hA1
              by_cases cC : len < 0
              · have HAX : Hid (thingAt s l xs k = false) := Lib.hid (by rw [HA2.out, decide_eq_false (by omega)]; rfl)
                clear HA2
                go_wp2_with fail
                refine region_free (by kernel_rfl) (by kernel_rfl) 84 rfl [19, 20, 21, 22, 23, 24, 25, 26, 27, 28, 29, 30, 31, 32, 33, 34, 35, 36, 37, 38, 39, 40, 41, 42, 43, 44, 45, 46, 47, 48, 49, 50, 51, 52, 53, 54, 55, 56, 57, 58, 59, 60, 61, 62, 63, 64, 65] [] []
                  [(19, [], fun _ => .pointer (some ⟨g7, 0, none⟩)), (20, [], fun _ => .string dg), (21, [], fun _ => .int .i64 (dg.size : Int)), (22, [], fun _ => .bool false), (23, [], fun _ => .bool false), (24, [], fun _ => .int .i64 (k : Int)), (25, [], fun _ => .bool true), (26, [], fun _ => .bool true), (27, [], fun _ => .pointer (some ⟨g7, 0, none⟩)), (28, [], fun _ => .string dg), (29, [], fun _ => .pointer (some ⟨w.heap.size + 1, 1, none⟩)), (30, [], fun _ => .slice (some ⟨bE, oE, none⟩) n1 c1), (31, [], fun _ => .int .i64 (k : Int)), (32, [], fun _ => .int .i64 ((k - 1 : Nat) : Int)), (33, [], fun _ => .pointer (some ⟨bE, oE + (k - 1) * 4, none⟩)), (34, [], fun _ => .pointer (some ⟨bE, oE + (k - 1) * 4, none⟩)), (35, [], fun _ => .string pd), (36, [], fun _ => .bool false), (37, [], fun _ => .bool false), (38, [], fun _ => .bool false), (39, [], fun _ => .bool false), (40, [], fun _ => .pointer (some ⟨g7, 1, none⟩)), (41, [], fun _ => .int .i64 len), (42, [], fun _ => .bool true), (43, [], fun _ => .bool true), (44, [], fun _ => .bool true), (45, [], fun _ => undef), (46, [], fun _ => undef), (47, [], fun _ => undef), (48, [], fun _ => .bool true), (49, [], fun _ => .bool true), (50, [], fun _ => undef), (51, [], fun _ => undef), (52, [], fun _ => undef), (53, [], fun _ => undef), (54, [], fun _ => undef), (55, [], fun _ => undef), (56, [], fun _ => undef), (57, [], fun _ => undef), (58, [], fun _ => .bool true), (59, [], fun _ => .bool true), (60, [], fun _ => undef), (61, [], fun _ => undef), (62, [], fun _ => undef), (63, [], fun _ => undef), (64, [], fun _ => undef), (65, [], fun _ => .bool true)]
                  [] [] [[], [19], [20], [21], [22], [23], [24, 23], [25, 23], [26], [27, 26], [26], [29, 26], [26], [31, 26], [30, 32, 26], [33, 26], [34, 26], [28, 35, 26], [26, 36, 23], [23, 37], [38], [39], [40, 39], [41, 39], [39, 42], [43], [44], [45, 44], [46, 44], [44, 47], [48], [49], [50, 49], [51, 49], [49], [49], [54, 49], [53, 55, 49], [52, 56, 49], [49, 57], [58], [59], [59], [59], [60, 61, 62, 59], [63, 59], [59, 64]]
                  (WdB w4 (fun _ _ _ => True)) (by kernel_rfl) .init ⟨?_, ?_, ?_, ?_, ?_, ?_, ?_, ?_, ?_, ?_, ?_, ?_, ?_, ?_, ?_, ?_, ?_, ?_, ?_, ?_, ?_, ?_, ?_, ?_, ?_, ?_, ?_, ?_, ?_, ?_, ?_, ?_, ?_, ?_, ?_, ?_, ?_, ?_, ?_, ?_, ?_, ?_, ?_, ?_, ?_, ?_, ?_, trivial⟩ ?_
                -- FAST47 cdot
                · (refine OpH.rd rfl rfl (fun ρ us w6 ho ht hc hl hsrc hW => ?_); have e7 := (ho 7 rfl).trans (show _ = (.pointer (some ⟨g7, 0, none⟩) : Value) from rfl); clear ht ho; simp only [execOp, e7]; go_simp; try rfl)
                · (refine OpH.rd rfl rfl (fun ρ us w6 ho ht hc hl hsrc hW => ?_); have e19 := (ht 19 (by decide)).trans (show _ = (.pointer (some ⟨g7, 0, none⟩) : Value) from rfl); have r7 := ROW7.out w6 hW.1; have z0 := cell_of_row _ _ 0 _ _ _ r7; have z1 := cell_of_row _ _ 1 _ _ _ r7; have z2 := cell_of_row _ _ 2 _ _ _ r7; have z3 := cell_of_row _ _ 3 _ _ _ r7; clear r7; clear ht ho; simp only [execOp, e19]; go_simp; try rfl)
                · (refine OpH.rd rfl rfl (fun ρ us w6 ho ht hc hl hsrc hW => ?_); have e20 := (ht 20 (by decide)).trans (show _ = (.string dg : Value) from rfl); clear ht ho; simp only [execOp]; go_simp; try rfl)
                · (refine OpH.rd rfl rfl (fun ρ us w6 ho ht hc hl hsrc hW => ?_); have e21 := (ht 21 (by decide)).trans (show _ = (.int .i64 (dg.size : Int) : Value) from rfl); clear ht ho; simp only [execOp, e21]; go_simp; try rfl)
                · (refine OpH.rd rfl rfl (fun ρ us w6 ho ht hc hl hsrc hW => ?_); have e22 := (ht 22 (by decide)).trans (show _ = (.bool false : Value) from rfl); clear ht ho; simp only [execOp, e22]; go_simp; try rfl)
                · (refine OpH.rdg rfl 4 23 false rfl rfl (by decide) (fun _ _ _ => rfl) (fun ρ us w6 ho ht hc hl hsrc hW => ?_); have e6 := (ho 6 rfl).trans (show _ = (.int .i64 (k : Int) : Value) from rfl); clear ht ho; simp only [execOp, e6]; go_simp; try rfl)
                · (refine OpH.rdg rfl 4 23 false rfl rfl (by decide) (fun _ _ _ => rfl) (fun ρ us w6 ho ht hc hl hsrc hW => ?_); have e24 := (ht 24 (by decide)).trans (show _ = (.int .i64 (k : Int) : Value) from rfl); clear ht ho; simp only [execOp, e24]; go_simp; exact congrArg Value.bool (decide_eq_true (by omega)))
                · (refine OpH.rdg rfl 4 23 false rfl rfl (by decide) (fun _ _ _ => rfl) (fun ρ us w6 ho ht hc hl hsrc hW => ?_); have e25 := (ht 25 (by decide)).trans (show _ = (.bool true : Value) from rfl); clear ht ho; simp only [execOp, e25]; go_simp; try rfl)
                · (refine OpH.rdg rfl 7 26 true rfl rfl (by decide) (fun _ _ _ => rfl) (fun ρ us w6 ho ht hc hl hsrc hW => ?_); have e7 := (ho 7 rfl).trans (show _ = (.pointer (some ⟨g7, 0, none⟩) : Value) from rfl); clear ht ho; simp only [execOp, e7]; go_simp; try rfl)
                · (refine OpH.rdg rfl 7 26 true rfl rfl (by decide) (fun _ _ _ => rfl) (fun ρ us w6 ho ht hc hl hsrc hW => ?_); have e27 := (ht 27 (by decide)).trans (show _ = (.pointer (some ⟨g7, 0, none⟩) : Value) from rfl); have r7 := ROW7.out w6 hW.1; have z0 := cell_of_row _ _ 0 _ _ _ r7; have z1 := cell_of_row _ _ 1 _ _ _ r7; have z2 := cell_of_row _ _ 2 _ _ _ r7; have z3 := cell_of_row _ _ 3 _ _ _ r7; clear r7; clear ht ho; simp only [execOp, e27]; go_simp; try rfl)
                · (refine OpH.rdg rfl 7 26 true rfl rfl (by decide) (fun _ _ _ => rfl) (fun ρ us w6 ho ht hc hl hsrc hW => ?_); have e3 := (ho 3 rfl).trans (show _ = (.pointer (some ⟨w.heap.size + 1, 0, none⟩) : Value) from rfl); clear ht ho; simp only [execOp, e3]; go_simp; try rfl)
                · (refine OpH.rdg rfl 7 26 true rfl rfl (by decide) (fun _ _ _ => rfl) (fun ρ us w6 ho ht hc hl hsrc hW => ?_); have e29 := (ht 29 (by decide)).trans (show _ = (.pointer (some ⟨w.heap.size + 1, 1, none⟩) : Value) from rfl); have rr := HROW.out w6 (HB4.out.trans (hW.1.mono hm4)); have z0 := cell_of_row _ _ 0 _ _ _ rr.1; have z1 := cell_of_row _ _ 1 _ _ _ rr.1; have z2 := cell_of_row _ _ 2 _ _ _ rr.1; have x0 := cell_of_row _ _ 0 _ _ _ rr.2; have x1 := cell_of_row _ _ 1 _ _ _ rr.2; have x2 := cell_of_row _ _ 2 _ _ _ rr.2; have x3 := cell_of_row _ _ 3 _ _ _ rr.2; clear rr; clear ht ho; simp only [execOp, e29]; go_simp; try rfl)
                · (refine OpH.rdg rfl 7 26 true rfl rfl (by decide) (fun _ _ _ => rfl) (fun ρ us w6 ho ht hc hl hsrc hW => ?_); have e6 := (ho 6 rfl).trans (show _ = (.int .i64 (k : Int) : Value) from rfl); clear ht ho; simp only [execOp, e6]; go_simp; try rfl)
                · (refine OpH.rdg rfl 7 26 true rfl rfl (by decide) (fun _ _ _ => rfl) (fun ρ us w6 ho ht hc hl hsrc hW => ?_); have e31 := (ht 31 (by decide)).trans (show _ = (.int .i64 (k : Int) : Value) from rfl); clear ht ho; simp only [execOp, e31]; go_simp; rw [Go.IntWalk.i64_in _ (by omega)]; rfl)
                · (refine OpH.rdg rfl 7 26 true rfl rfl (by decide) (fun _ _ _ => rfl) (fun ρ us w6 ho ht hc hl hsrc hW => ?_); have e30 := (ht 30 (by decide)).trans (show _ = (.slice (some ⟨bE, oE, none⟩) n1 c1 : Value) from rfl); have e32 := (ht 32 (by decide)).trans (show _ = (.int .i64 ((k - 1 : Nat) : Int) : Value) from rfl); clear ht ho; simp only [execOp, e30, e32]; go_simp; rw [if_pos (by omega)]; rfl)
                · (refine OpH.rdg rfl 7 26 true rfl rfl (by decide) (fun _ _ _ => rfl) (fun ρ us w6 ho ht hc hl hsrc hW => ?_); have e33 := (ht 33 (by decide)).trans (show _ = (.pointer (some ⟨bE, oE + (k - 1) * 4, none⟩) : Value) from rfl); clear ht ho; simp only [execOp, e33]; go_simp; try rfl)
                · (refine OpH.rdg rfl 7 26 true rfl rfl (by decide) (fun _ _ _ => rfl) (fun ρ us w6 ho ht hc hl hsrc hW => ?_); have e34 := (ht 34 (by decide)).trans (show _ = (.pointer (some ⟨bE, oE + (k - 1) * 4, none⟩) : Value) from rfl); have z2 := HPC.out w6 hW.1; clear ht ho; simp only [execOp, e34]; go_simp; try rfl)
                · (refine OpH.rdg rfl 7 26 true rfl rfl (by decide) (fun _ _ _ => rfl) (fun ρ us w6 ho ht hc hl hsrc hW => ?_); have e28 := (ht 28 (by decide)).trans (show _ = (.string dg : Value) from rfl); have e35 := (ht 35 (by decide)).trans (show _ = (.string pd : Value) from rfl); clear ht ho; simp only [execOp, e28, e35]; go_simp; rw [run_leq]; simp only [Result.andThen, hle]; rfl)
                · (refine OpH.rdg rfl 4 23 false rfl rfl (by decide) (fun _ _ _ => rfl) (fun ρ us w6 ho ht hc hl hsrc hW => ?_); have e26 := (ht 26 (by decide)).trans (show _ = (.bool true : Value) from rfl); have e36 := (ht 36 (by decide)).trans (show _ = (.bool false : Value) from rfl); clear ht ho; simp only [execOp, e26, e36]; go_simp; try rfl)
                · (refine OpH.rd rfl rfl (fun ρ us w6 ho ht hc hl hsrc hW => ?_); have e23 := (ht 23 (by decide)).trans (show _ = (.bool false : Value) from rfl); have e37 := (ht 37 (by decide)).trans (show _ = (.bool false : Value) from rfl); clear ht ho; simp only [execOp, e23, e37]; go_simp; try rfl)
                · (refine OpH.rd rfl rfl (fun ρ us w6 ho ht hc hl hsrc hW => ?_); have e38 := (ht 38 (by decide)).trans (show _ = (.bool false : Value) from rfl); clear ht ho; simp only [execOp, e38]; go_simp; try rfl)
                · (refine OpH.rdg rfl 20 39 false rfl rfl (by decide) (fun _ _ _ => rfl) (fun ρ us w6 ho ht hc hl hsrc hW => ?_); have e7 := (ho 7 rfl).trans (show _ = (.pointer (some ⟨g7, 0, none⟩) : Value) from rfl); clear ht ho; simp only [execOp, e7]; go_simp; try rfl)
                · (refine OpH.rdg rfl 20 39 false rfl rfl (by decide) (fun _ _ _ => rfl) (fun ρ us w6 ho ht hc hl hsrc hW => ?_); have e40 := (ht 40 (by decide)).trans (show _ = (.pointer (some ⟨g7, 1, none⟩) : Value) from rfl); have r7 := ROW7.out w6 hW.1; have z0 := cell_of_row _ _ 0 _ _ _ r7; have z1 := cell_of_row _ _ 1 _ _ _ r7; have z2 := cell_of_row _ _ 2 _ _ _ r7; have z3 := cell_of_row _ _ 3 _ _ _ r7; clear r7; clear ht ho; simp only [execOp, e40]; go_simp; try rfl)
                · (refine OpH.rdg rfl 20 39 false rfl rfl (by decide) (fun _ _ _ => rfl) (fun ρ us w6 ho ht hc hl hsrc hW => ?_); have e41 := (ht 41 (by decide)).trans (show _ = (.int .i64 len : Value) from rfl); clear ht ho; simp only [execOp, e41]; go_simp; try rfl)
                · (refine OpH.rd rfl rfl (fun ρ us w6 ho ht hc hl hsrc hW => ?_); have e39 := (ht 39 (by decide)).trans (show _ = (.bool false : Value) from rfl); have e42 := (ht 42 (by decide)).trans (show _ = (.bool true : Value) from rfl); clear ht ho; simp only [execOp, e39, e42]; go_simp; try rfl)
                · (refine OpH.rd rfl rfl (fun ρ us w6 ho ht hc hl hsrc hW => ?_); have e43 := (ht 43 (by decide)).trans (show _ = (.bool true : Value) from rfl); clear ht ho; simp only [execOp, e43]; go_simp; try rfl)
                · (exact OpH.rdn rfl 25 44 false rfl rfl (by decide) (fun _ _ _ => rfl) (fun _ => rfl))
                · (exact OpH.rdn rfl 25 44 false rfl rfl (by decide) (fun _ _ _ => rfl) (fun _ => rfl))
                · (exact OpH.rdn rfl 25 44 false rfl rfl (by decide) (fun _ _ _ => rfl) (fun _ => rfl))
                · (refine OpH.rd rfl rfl (fun ρ us w6 ho ht hc hl hsrc hW => ?_); have e44 := (ht 44 (by decide)).trans (show _ = (.bool true : Value) from rfl); have e47 := (ht 47 (by decide)).trans (show _ = (undef : Value) from rfl); clear ht ho; simp only [execOp, e44, e47]; go_simp; try rfl)
                · (refine OpH.rd rfl rfl (fun ρ us w6 ho ht hc hl hsrc hW => ?_); have e48 := (ht 48 (by decide)).trans (show _ = (.bool true : Value) from rfl); clear ht ho; simp only [execOp, e48]; go_simp; try rfl)
                · (exact OpH.rdn rfl 30 49 false rfl rfl (by decide) (fun _ _ _ => rfl) (fun _ => rfl))
                · (exact OpH.rdn rfl 30 49 false rfl rfl (by decide) (fun _ _ _ => rfl) (fun _ => rfl))
                · (exact OpH.rdn rfl 30 49 false rfl rfl (by decide) (fun _ _ _ => rfl) (fun _ => rfl))
                · (exact OpH.rdn rfl 30 49 false rfl rfl (by decide) (fun _ _ _ => rfl) (fun _ => rfl))
                · (exact OpH.rdn rfl 30 49 false rfl rfl (by decide) (fun _ _ _ => rfl) (fun _ => rfl))
                · (exact OpH.rdn rfl 30 49 false rfl rfl (by decide) (fun _ _ _ => rfl) (fun _ => rfl))
                · (exact OpH.rdn rfl 30 49 false rfl rfl (by decide) (fun _ _ _ => rfl) (fun _ => rfl))
                · (exact OpH.rdn rfl 30 49 false rfl rfl (by decide) (fun _ _ _ => rfl) (fun _ => rfl))
                · (refine OpH.rd rfl rfl (fun ρ us w6 ho ht hc hl hsrc hW => ?_); have e49 := (ht 49 (by decide)).trans (show _ = (.bool true : Value) from rfl); have e57 := (ht 57 (by decide)).trans (show _ = (undef : Value) from rfl); clear ht ho; simp only [execOp, e49, e57]; go_simp; try rfl)
                · (refine OpH.rd rfl rfl (fun ρ us w6 ho ht hc hl hsrc hW => ?_); have e58 := (ht 58 (by decide)).trans (show _ = (.bool true : Value) from rfl); clear ht ho; simp only [execOp, e58]; go_simp; try rfl)
                · (exact OpH.rdn rfl 40 59 false rfl rfl (by decide) (fun _ _ _ => rfl) (fun _ => rfl))
                · (exact OpH.rdn rfl 40 59 false rfl rfl (by decide) (fun _ _ _ => rfl) (fun _ => rfl))
                · (exact OpH.rdn rfl 40 59 false rfl rfl (by decide) (fun _ _ _ => rfl) (fun _ => rfl))
                · (exact OpH.rdn rfl 40 59 false rfl rfl (by decide) (fun _ _ _ => rfl) (fun _ => rfl))
                · (exact OpH.rdn rfl 40 59 false rfl rfl (by decide) (fun _ _ _ => rfl) (fun _ => rfl))
                · (refine OpH.rd rfl rfl (fun ρ us w6 ho ht hc hl hsrc hW => ?_); have e59 := (ht 59 (by decide)).trans (show _ = (.bool true : Value) from rfl); have e64 := (ht 64 (by decide)).trans (show _ = (undef : Value) from rfl); clear ht ho; simp only [execOp, e59, e64]; go_simp; try rfl)
                -- TSAF
                · intro us w9 hmem hW
                  simp only [putAll, List.map_cons, List.map_nil, List.foldl_cons, List.foldl_nil, Act.put, List.setIfInBounds_toArray, List.set_cons_succ, List.set_cons_zero]
                  generalize hsv : slotAt _ _ us = sv
                  have hq : sv 65 = (.bool true : Value) := by rw [← hsv]; rfl
                  rw [hq]
                  have HB9 := Lib.hid hW.1
                  clear hsv hq hmem hW
                  go_wp2
                  go_meet
                  case rel => exact ⟨by rw [HAX.out]; rfl, HB9⟩
              · by_cases cD : 2000 < len
                · have HAX : Hid (thingAt s l xs k = false) := Lib.hid (by rw [HA2.out, decide_eq_true (by omega : 0 ≤ len), decide_eq_false (by omega)]; rfl)
                  clear HA2
                  go_wp2_with fail
                  refine region_free (by kernel_rfl) (by kernel_rfl) 84 rfl [19, 20, 21, 22, 23, 24, 25, 26, 27, 28, 29, 30, 31, 32, 33, 34, 35, 36, 37, 38, 39, 40, 41, 42, 43, 44, 45, 46, 47, 48, 49, 50, 51, 52, 53, 54, 55, 56, 57, 58, 59, 60, 61, 62, 63, 64, 65] [] []
                    [(19, [], fun _ => .pointer (some ⟨g7, 0, none⟩)), (20, [], fun _ => .string dg), (21, [], fun _ => .int .i64 (dg.size : Int)), (22, [], fun _ => .bool false), (23, [], fun _ => .bool false), (24, [], fun _ => .int .i64 (k : Int)), (25, [], fun _ => .bool true), (26, [], fun _ => .bool true), (27, [], fun _ => .pointer (some ⟨g7, 0, none⟩)), (28, [], fun _ => .string dg), (29, [], fun _ => .pointer (some ⟨w.heap.size + 1, 1, none⟩)), (30, [], fun _ => .slice (some ⟨bE, oE, none⟩) n1 c1), (31, [], fun _ => .int .i64 (k : Int)), (32, [], fun _ => .int .i64 ((k - 1 : Nat) : Int)), (33, [], fun _ => .pointer (some ⟨bE, oE + (k - 1) * 4, none⟩)), (34, [], fun _ => .pointer (some ⟨bE, oE + (k - 1) * 4, none⟩)), (35, [], fun _ => .string pd), (36, [], fun _ => .bool false), (37, [], fun _ => .bool false), (38, [], fun _ => .bool false), (39, [], fun _ => .bool false), (40, [], fun _ => .pointer (some ⟨g7, 1, none⟩)), (41, [], fun _ => .int .i64 len), (42, [], fun _ => .bool false), (43, [], fun _ => .bool false), (44, [], fun _ => .bool false), (45, [], fun _ => .pointer (some ⟨g7, 1, none⟩)), (46, [], fun _ => .int .i64 len), (47, [], fun _ => .bool true), (48, [], fun _ => .bool true), (49, [], fun _ => .bool true), (50, [], fun _ => undef), (51, [], fun _ => undef), (52, [], fun _ => undef), (53, [], fun _ => undef), (54, [], fun _ => undef), (55, [], fun _ => undef), (56, [], fun _ => undef), (57, [], fun _ => undef), (58, [], fun _ => .bool true), (59, [], fun _ => .bool true), (60, [], fun _ => undef), (61, [], fun _ => undef), (62, [], fun _ => undef), (63, [], fun _ => undef), (64, [], fun _ => undef), (65, [], fun _ => .bool true)]
                    [] [] [[], [19], [20], [21], [22], [23], [24, 23], [25, 23], [26], [27, 26], [26], [29, 26], [26], [31, 26], [30, 32, 26], [33, 26], [34, 26], [28, 35, 26], [26, 36, 23], [23, 37], [38], [39], [40, 39], [41, 39], [39, 42], [43], [44], [45, 44], [46, 44], [44, 47], [48], [49], [50, 49], [51, 49], [49], [49], [54, 49], [53, 55, 49], [52, 56, 49], [49, 57], [58], [59], [59], [59], [60, 61, 62, 59], [63, 59], [59, 64]]
                    (WdB w4 (fun _ _ _ => True)) (by kernel_rfl) .init ⟨?_, ?_, ?_, ?_, ?_, ?_, ?_, ?_, ?_, ?_, ?_, ?_, ?_, ?_, ?_, ?_, ?_, ?_, ?_, ?_, ?_, ?_, ?_, ?_, ?_, ?_, ?_, ?_, ?_, ?_, ?_, ?_, ?_, ?_, ?_, ?_, ?_, ?_, ?_, ?_, ?_, ?_, ?_, ?_, ?_, ?_, ?_, trivial⟩ ?_
                  -- FAST47 cdot
                  · (refine OpH.rd rfl rfl (fun ρ us w6 ho ht hc hl hsrc hW => ?_); have e7 := (ho 7 rfl).trans (show _ = (.pointer (some ⟨g7, 0, none⟩) : Value) from rfl); clear ht ho; simp only [execOp, e7]; go_simp; try rfl)
                  · (refine OpH.rd rfl rfl (fun ρ us w6 ho ht hc hl hsrc hW => ?_); have e19 := (ht 19 (by decide)).trans (show _ = (.pointer (some ⟨g7, 0, none⟩) : Value) from rfl); have r7 := ROW7.out w6 hW.1; have z0 := cell_of_row _ _ 0 _ _ _ r7; have z1 := cell_of_row _ _ 1 _ _ _ r7; have z2 := cell_of_row _ _ 2 _ _ _ r7; have z3 := cell_of_row _ _ 3 _ _ _ r7; clear r7; clear ht ho; simp only [execOp, e19]; go_simp; try rfl)
                  · (refine OpH.rd rfl rfl (fun ρ us w6 ho ht hc hl hsrc hW => ?_); have e20 := (ht 20 (by decide)).trans (show _ = (.string dg : Value) from rfl); clear ht ho; simp only [execOp]; go_simp; try rfl)
                  · (refine OpH.rd rfl rfl (fun ρ us w6 ho ht hc hl hsrc hW => ?_); have e21 := (ht 21 (by decide)).trans (show _ = (.int .i64 (dg.size : Int) : Value) from rfl); clear ht ho; simp only [execOp, e21]; go_simp; try rfl)
                  · (refine OpH.rd rfl rfl (fun ρ us w6 ho ht hc hl hsrc hW => ?_); have e22 := (ht 22 (by decide)).trans (show _ = (.bool false : Value) from rfl); clear ht ho; simp only [execOp, e22]; go_simp; try rfl)
                  · (refine OpH.rdg rfl 4 23 false rfl rfl (by decide) (fun _ _ _ => rfl) (fun ρ us w6 ho ht hc hl hsrc hW => ?_); have e6 := (ho 6 rfl).trans (show _ = (.int .i64 (k : Int) : Value) from rfl); clear ht ho; simp only [execOp, e6]; go_simp; try rfl)
                  · (refine OpH.rdg rfl 4 23 false rfl rfl (by decide) (fun _ _ _ => rfl) (fun ρ us w6 ho ht hc hl hsrc hW => ?_); have e24 := (ht 24 (by decide)).trans (show _ = (.int .i64 (k : Int) : Value) from rfl); clear ht ho; simp only [execOp, e24]; go_simp; exact congrArg Value.bool (decide_eq_true (by omega)))
                  · (refine OpH.rdg rfl 4 23 false rfl rfl (by decide) (fun _ _ _ => rfl) (fun ρ us w6 ho ht hc hl hsrc hW => ?_); have e25 := (ht 25 (by decide)).trans (show _ = (.bool true : Value) from rfl); clear ht ho; simp only [execOp, e25]; go_simp; try rfl)
                  · (refine OpH.rdg rfl 7 26 true rfl rfl (by decide) (fun _ _ _ => rfl) (fun ρ us w6 ho ht hc hl hsrc hW => ?_); have e7 := (ho 7 rfl).trans (show _ = (.pointer (some ⟨g7, 0, none⟩) : Value) from rfl); clear ht ho; simp only [execOp, e7]; go_simp; try rfl)
                  · (refine OpH.rdg rfl 7 26 true rfl rfl (by decide) (fun _ _ _ => rfl) (fun ρ us w6 ho ht hc hl hsrc hW => ?_); have e27 := (ht 27 (by decide)).trans (show _ = (.pointer (some ⟨g7, 0, none⟩) : Value) from rfl); have r7 := ROW7.out w6 hW.1; have z0 := cell_of_row _ _ 0 _ _ _ r7; have z1 := cell_of_row _ _ 1 _ _ _ r7; have z2 := cell_of_row _ _ 2 _ _ _ r7; have z3 := cell_of_row _ _ 3 _ _ _ r7; clear r7; clear ht ho; simp only [execOp, e27]; go_simp; try rfl)
                  · (refine OpH.rdg rfl 7 26 true rfl rfl (by decide) (fun _ _ _ => rfl) (fun ρ us w6 ho ht hc hl hsrc hW => ?_); have e3 := (ho 3 rfl).trans (show _ = (.pointer (some ⟨w.heap.size + 1, 0, none⟩) : Value) from rfl); clear ht ho; simp only [execOp, e3]; go_simp; try rfl)
                  · (refine OpH.rdg rfl 7 26 true rfl rfl (by decide) (fun _ _ _ => rfl) (fun ρ us w6 ho ht hc hl hsrc hW => ?_); have e29 := (ht 29 (by decide)).trans (show _ = (.pointer (some ⟨w.heap.size + 1, 1, none⟩) : Value) from rfl); have rr := HROW.out w6 (HB4.out.trans (hW.1.mono hm4)); have z0 := cell_of_row _ _ 0 _ _ _ rr.1; have z1 := cell_of_row _ _ 1 _ _ _ rr.1; have z2 := cell_of_row _ _ 2 _ _ _ rr.1; have x0 := cell_of_row _ _ 0 _ _ _ rr.2; have x1 := cell_of_row _ _ 1 _ _ _ rr.2; have x2 := cell_of_row _ _ 2 _ _ _ rr.2; have x3 := cell_of_row _ _ 3 _ _ _ rr.2; clear rr; clear ht ho; simp only [execOp, e29]; go_simp; try rfl)
                  · (refine OpH.rdg rfl 7 26 true rfl rfl (by decide) (fun _ _ _ => rfl) (fun ρ us w6 ho ht hc hl hsrc hW => ?_); have e6 := (ho 6 rfl).trans (show _ = (.int .i64 (k : Int) : Value) from rfl); clear ht ho; simp only [execOp, e6]; go_simp; try rfl)
                  · (refine OpH.rdg rfl 7 26 true rfl rfl (by decide) (fun _ _ _ => rfl) (fun ρ us w6 ho ht hc hl hsrc hW => ?_); have e31 := (ht 31 (by decide)).trans (show _ = (.int .i64 (k : Int) : Value) from rfl); clear ht ho; simp only [execOp, e31]; go_simp; rw [Go.IntWalk.i64_in _ (by omega)]; rfl)
                  · (refine OpH.rdg rfl 7 26 true rfl rfl (by decide) (fun _ _ _ => rfl) (fun ρ us w6 ho ht hc hl hsrc hW => ?_); have e30 := (ht 30 (by decide)).trans (show _ = (.slice (some ⟨bE, oE, none⟩) n1 c1 : Value) from rfl); have e32 := (ht 32 (by decide)).trans (show _ = (.int .i64 ((k - 1 : Nat) : Int) : Value) from rfl); clear ht ho; simp only [execOp, e30, e32]; go_simp; rw [if_pos (by omega)]; rfl)
                  · (refine OpH.rdg rfl 7 26 true rfl rfl (by decide) (fun _ _ _ => rfl) (fun ρ us w6 ho ht hc hl hsrc hW => ?_); have e33 := (ht 33 (by decide)).trans (show _ = (.pointer (some ⟨bE, oE + (k - 1) * 4, none⟩) : Value) from rfl); clear ht ho; simp only [execOp, e33]; go_simp; try rfl)
                  · (refine OpH.rdg rfl 7 26 true rfl rfl (by decide) (fun _ _ _ => rfl) (fun ρ us w6 ho ht hc hl hsrc hW => ?_); have e34 := (ht 34 (by decide)).trans (show _ = (.pointer (some ⟨bE, oE + (k - 1) * 4, none⟩) : Value) from rfl); have z2 := HPC.out w6 hW.1; clear ht ho; simp only [execOp, e34]; go_simp; try rfl)
                  · (refine OpH.rdg rfl 7 26 true rfl rfl (by decide) (fun _ _ _ => rfl) (fun ρ us w6 ho ht hc hl hsrc hW => ?_); have e28 := (ht 28 (by decide)).trans (show _ = (.string dg : Value) from rfl); have e35 := (ht 35 (by decide)).trans (show _ = (.string pd : Value) from rfl); clear ht ho; simp only [execOp, e28, e35]; go_simp; rw [run_leq]; simp only [Result.andThen, hle]; rfl)
                  · (refine OpH.rdg rfl 4 23 false rfl rfl (by decide) (fun _ _ _ => rfl) (fun ρ us w6 ho ht hc hl hsrc hW => ?_); have e26 := (ht 26 (by decide)).trans (show _ = (.bool true : Value) from rfl); have e36 := (ht 36 (by decide)).trans (show _ = (.bool false : Value) from rfl); clear ht ho; simp only [execOp, e26, e36]; go_simp; try rfl)
                  · (refine OpH.rd rfl rfl (fun ρ us w6 ho ht hc hl hsrc hW => ?_); have e23 := (ht 23 (by decide)).trans (show _ = (.bool false : Value) from rfl); have e37 := (ht 37 (by decide)).trans (show _ = (.bool false : Value) from rfl); clear ht ho; simp only [execOp, e23, e37]; go_simp; try rfl)
                  · (refine OpH.rd rfl rfl (fun ρ us w6 ho ht hc hl hsrc hW => ?_); have e38 := (ht 38 (by decide)).trans (show _ = (.bool false : Value) from rfl); clear ht ho; simp only [execOp, e38]; go_simp; try rfl)
                  · (refine OpH.rdg rfl 20 39 false rfl rfl (by decide) (fun _ _ _ => rfl) (fun ρ us w6 ho ht hc hl hsrc hW => ?_); have e7 := (ho 7 rfl).trans (show _ = (.pointer (some ⟨g7, 0, none⟩) : Value) from rfl); clear ht ho; simp only [execOp, e7]; go_simp; try rfl)
                  · (refine OpH.rdg rfl 20 39 false rfl rfl (by decide) (fun _ _ _ => rfl) (fun ρ us w6 ho ht hc hl hsrc hW => ?_); have e40 := (ht 40 (by decide)).trans (show _ = (.pointer (some ⟨g7, 1, none⟩) : Value) from rfl); have r7 := ROW7.out w6 hW.1; have z0 := cell_of_row _ _ 0 _ _ _ r7; have z1 := cell_of_row _ _ 1 _ _ _ r7; have z2 := cell_of_row _ _ 2 _ _ _ r7; have z3 := cell_of_row _ _ 3 _ _ _ r7; clear r7; clear ht ho; simp only [execOp, e40]; go_simp; try rfl)
                  · (refine OpH.rdg rfl 20 39 false rfl rfl (by decide) (fun _ _ _ => rfl) (fun ρ us w6 ho ht hc hl hsrc hW => ?_); have e41 := (ht 41 (by decide)).trans (show _ = (.int .i64 len : Value) from rfl); clear ht ho; simp only [execOp, e41]; go_simp; exact congrArg Value.bool (decide_eq_false (by omega)))
                  · (refine OpH.rd rfl rfl (fun ρ us w6 ho ht hc hl hsrc hW => ?_); have e39 := (ht 39 (by decide)).trans (show _ = (.bool false : Value) from rfl); have e42 := (ht 42 (by decide)).trans (show _ = (.bool false : Value) from rfl); clear ht ho; simp only [execOp, e39, e42]; go_simp; try rfl)
                  · (refine OpH.rd rfl rfl (fun ρ us w6 ho ht hc hl hsrc hW => ?_); have e43 := (ht 43 (by decide)).trans (show _ = (.bool false : Value) from rfl); clear ht ho; simp only [execOp, e43]; go_simp; try rfl)
                  · (refine OpH.rdg rfl 25 44 false rfl rfl (by decide) (fun _ _ _ => rfl) (fun ρ us w6 ho ht hc hl hsrc hW => ?_); have e7 := (ho 7 rfl).trans (show _ = (.pointer (some ⟨g7, 0, none⟩) : Value) from rfl); clear ht ho; simp only [execOp, e7]; go_simp; try rfl)
                  · (refine OpH.rdg rfl 25 44 false rfl rfl (by decide) (fun _ _ _ => rfl) (fun ρ us w6 ho ht hc hl hsrc hW => ?_); have e45 := (ht 45 (by decide)).trans (show _ = (.pointer (some ⟨g7, 1, none⟩) : Value) from rfl); have r7 := ROW7.out w6 hW.1; have z0 := cell_of_row _ _ 0 _ _ _ r7; have z1 := cell_of_row _ _ 1 _ _ _ r7; have z2 := cell_of_row _ _ 2 _ _ _ r7; have z3 := cell_of_row _ _ 3 _ _ _ r7; clear r7; clear ht ho; simp only [execOp, e45]; go_simp; try rfl)
                  · (refine OpH.rdg rfl 25 44 false rfl rfl (by decide) (fun _ _ _ => rfl) (fun ρ us w6 ho ht hc hl hsrc hW => ?_); have e46 := (ht 46 (by decide)).trans (show _ = (.int .i64 len : Value) from rfl); clear ht ho; simp only [execOp, e46]; go_simp; try rfl)
                  · (refine OpH.rd rfl rfl (fun ρ us w6 ho ht hc hl hsrc hW => ?_); have e44 := (ht 44 (by decide)).trans (show _ = (.bool false : Value) from rfl); have e47 := (ht 47 (by decide)).trans (show _ = (.bool true : Value) from rfl); clear ht ho; simp only [execOp, e44, e47]; go_simp; try rfl)
                  · (refine OpH.rd rfl rfl (fun ρ us w6 ho ht hc hl hsrc hW => ?_); have e48 := (ht 48 (by decide)).trans (show _ = (.bool true : Value) from rfl); clear ht ho; simp only [execOp, e48]; go_simp; try rfl)
                  · (exact OpH.rdn rfl 30 49 false rfl rfl (by decide) (fun _ _ _ => rfl) (fun _ => rfl))
                  · (exact OpH.rdn rfl 30 49 false rfl rfl (by decide) (fun _ _ _ => rfl) (fun _ => rfl))
                  · (exact OpH.rdn rfl 30 49 false rfl rfl (by decide) (fun _ _ _ => rfl) (fun _ => rfl))
                  · (exact OpH.rdn rfl 30 49 false rfl rfl (by decide) (fun _ _ _ => rfl) (fun _ => rfl))
                  · (exact OpH.rdn rfl 30 49 false rfl rfl (by decide) (fun _ _ _ => rfl) (fun _ => rfl))
                  · (exact OpH.rdn rfl 30 49 false rfl rfl (by decide) (fun _ _ _ => rfl) (fun _ => rfl))
                  · (exact OpH.rdn rfl 30 49 false rfl rfl (by decide) (fun _ _ _ => rfl) (fun _ => rfl))
                  · (exact OpH.rdn rfl 30 49 false rfl rfl (by decide) (fun _ _ _ => rfl) (fun _ => rfl))
                  · (refine OpH.rd rfl rfl (fun ρ us w6 ho ht hc hl hsrc hW => ?_); have e49 := (ht 49 (by decide)).trans (show _ = (.bool true : Value) from rfl); have e57 := (ht 57 (by decide)).trans (show _ = (undef : Value) from rfl); clear ht ho; simp only [execOp, e49, e57]; go_simp; try rfl)
                  · (refine OpH.rd rfl rfl (fun ρ us w6 ho ht hc hl hsrc hW => ?_); have e58 := (ht 58 (by decide)).trans (show _ = (.bool true : Value) from rfl); clear ht ho; simp only [execOp, e58]; go_simp; try rfl)
                  · (exact OpH.rdn rfl 40 59 false rfl rfl (by decide) (fun _ _ _ => rfl) (fun _ => rfl))
                  · (exact OpH.rdn rfl 40 59 false rfl rfl (by decide) (fun _ _ _ => rfl) (fun _ => rfl))
                  · (exact OpH.rdn rfl 40 59 false rfl rfl (by decide) (fun _ _ _ => rfl) (fun _ => rfl))
                  · (exact OpH.rdn rfl 40 59 false rfl rfl (by decide) (fun _ _ _ => rfl) (fun _ => rfl))
                  · (exact OpH.rdn rfl 40 59 false rfl rfl (by decide) (fun _ _ _ => rfl) (fun _ => rfl))
                  · (refine OpH.rd rfl rfl (fun ρ us w6 ho ht hc hl hsrc hW => ?_); have e59 := (ht 59 (by decide)).trans (show _ = (.bool true : Value) from rfl); have e64 := (ht 64 (by decide)).trans (show _ = (undef : Value) from rfl); clear ht ho; simp only [execOp, e59, e64]; go_simp; try rfl)
                  -- TSAF
                  · intro us w9 hmem hW
                    simp only [putAll, List.map_cons, List.map_nil, List.foldl_cons, List.foldl_nil, Act.put, List.setIfInBounds_toArray, List.set_cons_succ, List.set_cons_zero]
                    generalize hsv : slotAt _ _ us = sv
                    have hq : sv 65 = (.bool true : Value) := by rw [← hsv]; rfl
                    rw [hq]
                    have HB9 := Lib.hid hW.1
                    clear hsv hq hmem hW
                    go_wp2
                    go_meet
                    case rel => exact ⟨by rw [HAX.out]; rfl, HB9⟩
                · have hA3 : thingAt s l xs k = (decide (n3 = manyX s len) && lensF (s.K * s.size) l ys len) := by rw [HA2.out, decide_eq_true (by omega : 0 ≤ len), decide_eq_true (by omega : len ≤ 2000)]; rfl
                  clear HA2
                  obtain ⟨mn, hmn⟩ : ∃ mn, mn = manyX s len := ⟨_, rfl⟩
                  rw [← hmn] at hA3
                  have HMN := Lib.hid hmn.symm; clear hmn
                  by_cases cE : n3 = mn
                  · have cE' : ((n3 : Int) != (mn : Int)) = false := by simp [cE]
                    rw [decide_eq_true cE] at hA3
                    clear cE
                    generalize hlf : lensF (s.K * s.size) l ys len = lf at *
                    have HLF := Lib.hid hlf; clear hlf
                    cases lf with
                    | true =>
                      have HAX : Hid (thingAt s l xs k = true) := Lib.hid hA3
                      clear hA3
                      go_wp2_with fail
                      refine region_free (by kernel_rfl) (by kernel_rfl) 84 rfl [19, 20, 21, 22, 23, 24, 25, 26, 27, 28, 29, 30, 31, 32, 33, 34, 35, 36, 37, 38, 39, 40, 41, 42, 43, 44, 45, 46, 47, 48, 49, 50, 51, 52, 53, 54, 55, 56, 57, 58, 59, 60, 61, 62, 63, 64, 65] [37, 44] [(56, 37), (63, 44)]
                        [(19, [], fun _ => .pointer (some ⟨g7, 0, none⟩)), (20, [], fun _ => .string dg), (21, [], fun _ => .int .i64 (dg.size : Int)), (22, [], fun _ => .bool false), (23, [], fun _ => .bool false), (24, [], fun _ => .int .i64 (k : Int)), (25, [], fun _ => .bool true), (26, [], fun _ => .bool true), (27, [], fun _ => .pointer (some ⟨g7, 0, none⟩)), (28, [], fun _ => .string dg), (29, [], fun _ => .pointer (some ⟨w.heap.size + 1, 1, none⟩)), (30, [], fun _ => .slice (some ⟨bE, oE, none⟩) n1 c1), (31, [], fun _ => .int .i64 (k : Int)), (32, [], fun _ => .int .i64 ((k - 1 : Nat) : Int)), (33, [], fun _ => .pointer (some ⟨bE, oE + (k - 1) * 4, none⟩)), (34, [], fun _ => .pointer (some ⟨bE, oE + (k - 1) * 4, none⟩)), (35, [], fun _ => .string pd), (36, [], fun _ => .bool false), (37, [], fun _ => .bool false), (38, [], fun _ => .bool false), (39, [], fun _ => .bool false), (40, [], fun _ => .pointer (some ⟨g7, 1, none⟩)), (41, [], fun _ => .int .i64 len), (42, [], fun _ => .bool false), (43, [], fun _ => .bool false), (44, [], fun _ => .bool false), (45, [], fun _ => .pointer (some ⟨g7, 1, none⟩)), (46, [], fun _ => .int .i64 len), (47, [], fun _ => .bool false), (48, [], fun _ => .bool false), (49, [], fun _ => .bool false), (50, [], fun _ => .pointer (some ⟨g7, 3, none⟩)), (51, [], fun _ => .slice A3 n3 c3), (52, [], fun _ => .int .i64 (n3 : Int)), (53, [], fun _ => .agg #[.int .i64 s.K, .int .i64 s.M, .int .i64 s.size]), (54, [], fun _ => .pointer (some ⟨g7, 1, none⟩)), (55, [], fun _ => .int .i64 len), (57, [37], fun _ => .bool false), (58, [], fun _ => .bool false), (59, [], fun _ => .bool false), (60, [], fun _ => .agg #[.int .i64 s.K, .int .i64 s.M, .int .i64 s.size]), (61, [], fun _ => .agg #[.slice A0 n0 c0, .slice (some ⟨bE, oE, none⟩) n1 c1, .slice A2 n2 c2, .int .i64 nx]), (62, [], fun _ => .agg #[.string dg, .int .i64 len, .bool man, .slice A3 n3 c3]), (64, [44], fun _ => .bool false), (65, [], fun _ => .bool false)]
                        [] [] [[], [19], [20], [21], [22], [23], [24, 23], [25, 23], [26], [27, 26], [26], [29, 26], [26], [31, 26], [30, 32, 26], [33, 26], [34, 26], [28, 35, 26], [26, 36, 23], [23, 37], [38], [39], [40, 39], [41, 39], [39, 42], [43], [44], [45, 44], [46, 44], [44, 47], [48], [49], [50, 49], [51, 49], [49], [49], [54, 49], [53, 55, 49], [52, 56, 49], [49, 57], [58], [59], [59], [59], [60, 61, 62, 59], [63, 59], [59, 64]]
                        (WdB w4 (fun i v _ => (i = 37 → v = .int .i64 (mn : Int)) ∧ (i = 44 → v = .bool true))) (by kernel_rfl) .init ⟨?_, ?_, ?_, ?_, ?_, ?_, ?_, ?_, ?_, ?_, ?_, ?_, ?_, ?_, ?_, ?_, ?_, ?_, ?_, ?_, ?_, ?_, ?_, ?_, ?_, ?_, ?_, ?_, ?_, ?_, ?_, ?_, ?_, ?_, ?_, ?_, ?_, ?_, ?_, ?_, ?_, ?_, ?_, ?_, ?_, ?_, ?_, trivial⟩ ?_
                      -- FAST47 cdot
                      · (refine OpH.rd rfl rfl (fun ρ us w6 ho ht hc hl hsrc hW => ?_); have e7 := (ho 7 rfl).trans (show _ = (.pointer (some ⟨g7, 0, none⟩) : Value) from rfl); clear ht ho; simp only [execOp, e7]; go_simp; try rfl)
                      · (refine OpH.rd rfl rfl (fun ρ us w6 ho ht hc hl hsrc hW => ?_); have e19 := (ht 19 (by decide)).trans (show _ = (.pointer (some ⟨g7, 0, none⟩) : Value) from rfl); have r7 := ROW7.out w6 hW.1; have z0 := cell_of_row _ _ 0 _ _ _ r7; have z1 := cell_of_row _ _ 1 _ _ _ r7; have z2 := cell_of_row _ _ 2 _ _ _ r7; have z3 := cell_of_row _ _ 3 _ _ _ r7; clear r7; clear ht ho; simp only [execOp, e19]; go_simp; try rfl)
                      · (refine OpH.rd rfl rfl (fun ρ us w6 ho ht hc hl hsrc hW => ?_); have e20 := (ht 20 (by decide)).trans (show _ = (.string dg : Value) from rfl); clear ht ho; simp only [execOp]; go_simp; try rfl)
                      · (refine OpH.rd rfl rfl (fun ρ us w6 ho ht hc hl hsrc hW => ?_); have e21 := (ht 21 (by decide)).trans (show _ = (.int .i64 (dg.size : Int) : Value) from rfl); clear ht ho; simp only [execOp, e21]; go_simp; try rfl)
                      · (refine OpH.rd rfl rfl (fun ρ us w6 ho ht hc hl hsrc hW => ?_); have e22 := (ht 22 (by decide)).trans (show _ = (.bool false : Value) from rfl); clear ht ho; simp only [execOp, e22]; go_simp; try rfl)
                      · (refine OpH.rdg rfl 4 23 false rfl rfl (by decide) (fun _ _ _ => rfl) (fun ρ us w6 ho ht hc hl hsrc hW => ?_); have e6 := (ho 6 rfl).trans (show _ = (.int .i64 (k : Int) : Value) from rfl); clear ht ho; simp only [execOp, e6]; go_simp; try rfl)
                      · (refine OpH.rdg rfl 4 23 false rfl rfl (by decide) (fun _ _ _ => rfl) (fun ρ us w6 ho ht hc hl hsrc hW => ?_); have e24 := (ht 24 (by decide)).trans (show _ = (.int .i64 (k : Int) : Value) from rfl); clear ht ho; simp only [execOp, e24]; go_simp; exact congrArg Value.bool (decide_eq_true (by omega)))
                      · (refine OpH.rdg rfl 4 23 false rfl rfl (by decide) (fun _ _ _ => rfl) (fun ρ us w6 ho ht hc hl hsrc hW => ?_); have e25 := (ht 25 (by decide)).trans (show _ = (.bool true : Value) from rfl); clear ht ho; simp only [execOp, e25]; go_simp; try rfl)
                      · (refine OpH.rdg rfl 7 26 true rfl rfl (by decide) (fun _ _ _ => rfl) (fun ρ us w6 ho ht hc hl hsrc hW => ?_); have e7 := (ho 7 rfl).trans (show _ = (.pointer (some ⟨g7, 0, none⟩) : Value) from rfl); clear ht ho; simp only [execOp, e7]; go_simp; try rfl)
                      · (refine OpH.rdg rfl 7 26 true rfl rfl (by decide) (fun _ _ _ => rfl) (fun ρ us w6 ho ht hc hl hsrc hW => ?_); have e27 := (ht 27 (by decide)).trans (show _ = (.pointer (some ⟨g7, 0, none⟩) : Value) from rfl); have r7 := ROW7.out w6 hW.1; have z0 := cell_of_row _ _ 0 _ _ _ r7; have z1 := cell_of_row _ _ 1 _ _ _ r7; have z2 := cell_of_row _ _ 2 _ _ _ r7; have z3 := cell_of_row _ _ 3 _ _ _ r7; clear r7; clear ht ho; simp only [execOp, e27]; go_simp; try rfl)
                      · (refine OpH.rdg rfl 7 26 true rfl rfl (by decide) (fun _ _ _ => rfl) (fun ρ us w6 ho ht hc hl hsrc hW => ?_); have e3 := (ho 3 rfl).trans (show _ = (.pointer (some ⟨w.heap.size + 1, 0, none⟩) : Value) from rfl); clear ht ho; simp only [execOp, e3]; go_simp; try rfl)
                      · (refine OpH.rdg rfl 7 26 true rfl rfl (by decide) (fun _ _ _ => rfl) (fun ρ us w6 ho ht hc hl hsrc hW => ?_); have e29 := (ht 29 (by decide)).trans (show _ = (.pointer (some ⟨w.heap.size + 1, 1, none⟩) : Value) from rfl); have rr := HROW.out w6 (HB4.out.trans (hW.1.mono hm4)); have z0 := cell_of_row _ _ 0 _ _ _ rr.1; have z1 := cell_of_row _ _ 1 _ _ _ rr.1; have z2 := cell_of_row _ _ 2 _ _ _ rr.1; have x0 := cell_of_row _ _ 0 _ _ _ rr.2; have x1 := cell_of_row _ _ 1 _ _ _ rr.2; have x2 := cell_of_row _ _ 2 _ _ _ rr.2; have x3 := cell_of_row _ _ 3 _ _ _ rr.2; clear rr; clear ht ho; simp only [execOp, e29]; go_simp; try rfl)
                      · (refine OpH.rdg rfl 7 26 true rfl rfl (by decide) (fun _ _ _ => rfl) (fun ρ us w6 ho ht hc hl hsrc hW => ?_); have e6 := (ho 6 rfl).trans (show _ = (.int .i64 (k : Int) : Value) from rfl); clear ht ho; simp only [execOp, e6]; go_simp; try rfl)
                      · (refine OpH.rdg rfl 7 26 true rfl rfl (by decide) (fun _ _ _ => rfl) (fun ρ us w6 ho ht hc hl hsrc hW => ?_); have e31 := (ht 31 (by decide)).trans (show _ = (.int .i64 (k : Int) : Value) from rfl); clear ht ho; simp only [execOp, e31]; go_simp; rw [Go.IntWalk.i64_in _ (by omega)]; rfl)
                      · (refine OpH.rdg rfl 7 26 true rfl rfl (by decide) (fun _ _ _ => rfl) (fun ρ us w6 ho ht hc hl hsrc hW => ?_); have e30 := (ht 30 (by decide)).trans (show _ = (.slice (some ⟨bE, oE, none⟩) n1 c1 : Value) from rfl); have e32 := (ht 32 (by decide)).trans (show _ = (.int .i64 ((k - 1 : Nat) : Int) : Value) from rfl); clear ht ho; simp only [execOp, e30, e32]; go_simp; rw [if_pos (by omega)]; rfl)
                      · (refine OpH.rdg rfl 7 26 true rfl rfl (by decide) (fun _ _ _ => rfl) (fun ρ us w6 ho ht hc hl hsrc hW => ?_); have e33 := (ht 33 (by decide)).trans (show _ = (.pointer (some ⟨bE, oE + (k - 1) * 4, none⟩) : Value) from rfl); clear ht ho; simp only [execOp, e33]; go_simp; try rfl)
                      · (refine OpH.rdg rfl 7 26 true rfl rfl (by decide) (fun _ _ _ => rfl) (fun ρ us w6 ho ht hc hl hsrc hW => ?_); have e34 := (ht 34 (by decide)).trans (show _ = (.pointer (some ⟨bE, oE + (k - 1) * 4, none⟩) : Value) from rfl); have z2 := HPC.out w6 hW.1; clear ht ho; simp only [execOp, e34]; go_simp; try rfl)
                      · (refine OpH.rdg rfl 7 26 true rfl rfl (by decide) (fun _ _ _ => rfl) (fun ρ us w6 ho ht hc hl hsrc hW => ?_); have e28 := (ht 28 (by decide)).trans (show _ = (.string dg : Value) from rfl); have e35 := (ht 35 (by decide)).trans (show _ = (.string pd : Value) from rfl); clear ht ho; simp only [execOp, e28, e35]; go_simp; rw [run_leq]; simp only [Result.andThen, hle]; rfl)
                      · (refine OpH.rdg rfl 4 23 false rfl rfl (by decide) (fun _ _ _ => rfl) (fun ρ us w6 ho ht hc hl hsrc hW => ?_); have e26 := (ht 26 (by decide)).trans (show _ = (.bool true : Value) from rfl); have e36 := (ht 36 (by decide)).trans (show _ = (.bool false : Value) from rfl); clear ht ho; simp only [execOp, e26, e36]; go_simp; try rfl)
                      · (refine OpH.rd rfl rfl (fun ρ us w6 ho ht hc hl hsrc hW => ?_); have e23 := (ht 23 (by decide)).trans (show _ = (.bool false : Value) from rfl); have e37 := (ht 37 (by decide)).trans (show _ = (.bool false : Value) from rfl); clear ht ho; simp only [execOp, e23, e37]; go_simp; try rfl)
                      · (refine OpH.rd rfl rfl (fun ρ us w6 ho ht hc hl hsrc hW => ?_); have e38 := (ht 38 (by decide)).trans (show _ = (.bool false : Value) from rfl); clear ht ho; simp only [execOp, e38]; go_simp; try rfl)
                      · (refine OpH.rdg rfl 20 39 false rfl rfl (by decide) (fun _ _ _ => rfl) (fun ρ us w6 ho ht hc hl hsrc hW => ?_); have e7 := (ho 7 rfl).trans (show _ = (.pointer (some ⟨g7, 0, none⟩) : Value) from rfl); clear ht ho; simp only [execOp, e7]; go_simp; try rfl)
                      · (refine OpH.rdg rfl 20 39 false rfl rfl (by decide) (fun _ _ _ => rfl) (fun ρ us w6 ho ht hc hl hsrc hW => ?_); have e40 := (ht 40 (by decide)).trans (show _ = (.pointer (some ⟨g7, 1, none⟩) : Value) from rfl); have r7 := ROW7.out w6 hW.1; have z0 := cell_of_row _ _ 0 _ _ _ r7; have z1 := cell_of_row _ _ 1 _ _ _ r7; have z2 := cell_of_row _ _ 2 _ _ _ r7; have z3 := cell_of_row _ _ 3 _ _ _ r7; clear r7; clear ht ho; simp only [execOp, e40]; go_simp; try rfl)
                      · (refine OpH.rdg rfl 20 39 false rfl rfl (by decide) (fun _ _ _ => rfl) (fun ρ us w6 ho ht hc hl hsrc hW => ?_); have e41 := (ht 41 (by decide)).trans (show _ = (.int .i64 len : Value) from rfl); clear ht ho; simp only [execOp, e41]; go_simp; exact congrArg Value.bool (decide_eq_false (by omega)))
                      · (refine OpH.rd rfl rfl (fun ρ us w6 ho ht hc hl hsrc hW => ?_); have e39 := (ht 39 (by decide)).trans (show _ = (.bool false : Value) from rfl); have e42 := (ht 42 (by decide)).trans (show _ = (.bool false : Value) from rfl); clear ht ho; simp only [execOp, e39, e42]; go_simp; try rfl)
                      · (refine OpH.rd rfl rfl (fun ρ us w6 ho ht hc hl hsrc hW => ?_); have e43 := (ht 43 (by decide)).trans (show _ = (.bool false : Value) from rfl); clear ht ho; simp only [execOp, e43]; go_simp; try rfl)
                      · (refine OpH.rdg rfl 25 44 false rfl rfl (by decide) (fun _ _ _ => rfl) (fun ρ us w6 ho ht hc hl hsrc hW => ?_); have e7 := (ho 7 rfl).trans (show _ = (.pointer (some ⟨g7, 0, none⟩) : Value) from rfl); clear ht ho; simp only [execOp, e7]; go_simp; try rfl)
                      · (refine OpH.rdg rfl 25 44 false rfl rfl (by decide) (fun _ _ _ => rfl) (fun ρ us w6 ho ht hc hl hsrc hW => ?_); have e45 := (ht 45 (by decide)).trans (show _ = (.pointer (some ⟨g7, 1, none⟩) : Value) from rfl); have r7 := ROW7.out w6 hW.1; have z0 := cell_of_row _ _ 0 _ _ _ r7; have z1 := cell_of_row _ _ 1 _ _ _ r7; have z2 := cell_of_row _ _ 2 _ _ _ r7; have z3 := cell_of_row _ _ 3 _ _ _ r7; clear r7; clear ht ho; simp only [execOp, e45]; go_simp; try rfl)
                      · (refine OpH.rdg rfl 25 44 false rfl rfl (by decide) (fun _ _ _ => rfl) (fun ρ us w6 ho ht hc hl hsrc hW => ?_); have e46 := (ht 46 (by decide)).trans (show _ = (.int .i64 len : Value) from rfl); clear ht ho; simp only [execOp, e46]; go_simp; exact congrArg Value.bool (decide_eq_false (by omega)))
                      · (refine OpH.rd rfl rfl (fun ρ us w6 ho ht hc hl hsrc hW => ?_); have e44 := (ht 44 (by decide)).trans (show _ = (.bool false : Value) from rfl); have e47 := (ht 47 (by decide)).trans (show _ = (.bool false : Value) from rfl); clear ht ho; simp only [execOp, e44, e47]; go_simp; try rfl)
                      · (refine OpH.rd rfl rfl (fun ρ us w6 ho ht hc hl hsrc hW => ?_); have e48 := (ht 48 (by decide)).trans (show _ = (.bool false : Value) from rfl); clear ht ho; simp only [execOp, e48]; go_simp; try rfl)
                      · (refine OpH.rdg rfl 30 49 false rfl rfl (by decide) (fun _ _ _ => rfl) (fun ρ us w6 ho ht hc hl hsrc hW => ?_); have e7 := (ho 7 rfl).trans (show _ = (.pointer (some ⟨g7, 0, none⟩) : Value) from rfl); clear ht ho; simp only [execOp, e7]; go_simp; try rfl)
                      · (refine OpH.rdg rfl 30 49 false rfl rfl (by decide) (fun _ _ _ => rfl) (fun ρ us w6 ho ht hc hl hsrc hW => ?_); have e50 := (ht 50 (by decide)).trans (show _ = (.pointer (some ⟨g7, 3, none⟩) : Value) from rfl); have r7 := ROW7.out w6 hW.1; have z0 := cell_of_row _ _ 0 _ _ _ r7; have z1 := cell_of_row _ _ 1 _ _ _ r7; have z2 := cell_of_row _ _ 2 _ _ _ r7; have z3 := cell_of_row _ _ 3 _ _ _ r7; clear r7; clear ht ho; simp only [execOp, e50]; go_simp; try rfl)
                      · (refine OpH.rdg rfl 30 49 false rfl rfl (by decide) (fun _ _ _ => rfl) (fun ρ us w6 ho ht hc hl hsrc hW => ?_); have e51 := (ht 51 (by decide)).trans (show _ = (.slice A3 n3 c3 : Value) from rfl); clear ht ho; simp only [execOp]; go_simp; try rfl)
                      · (refine OpH.rdg rfl 30 49 false rfl rfl (by decide) (fun _ _ _ => rfl) (fun ρ us w6 ho ht hc hl hsrc hW => ?_); have e2 := (ho 2 rfl).trans (show _ = (.pointer (some ⟨w.heap.size, 0, none⟩) : Value) from rfl); have rr := HROW.out w6 (HB4.out.trans (hW.1.mono hm4)); have z0 := cell_of_row _ _ 0 _ _ _ rr.1; have z1 := cell_of_row _ _ 1 _ _ _ rr.1; have z2 := cell_of_row _ _ 2 _ _ _ rr.1; have x0 := cell_of_row _ _ 0 _ _ _ rr.2; have x1 := cell_of_row _ _ 1 _ _ _ rr.2; have x2 := cell_of_row _ _ 2 _ _ _ rr.2; have x3 := cell_of_row _ _ 3 _ _ _ rr.2; clear rr; clear ht ho; simp only [execOp, e2]; go_simp; try rfl)
                      · (refine OpH.rdg rfl 30 49 false rfl rfl (by decide) (fun _ _ _ => rfl) (fun ρ us w6 ho ht hc hl hsrc hW => ?_); have e7 := (ho 7 rfl).trans (show _ = (.pointer (some ⟨g7, 0, none⟩) : Value) from rfl); clear ht ho; simp only [execOp, e7]; go_simp; try rfl)
                      · (refine OpH.rdg rfl 30 49 false rfl rfl (by decide) (fun _ _ _ => rfl) (fun ρ us w6 ho ht hc hl hsrc hW => ?_); have e54 := (ht 54 (by decide)).trans (show _ = (.pointer (some ⟨g7, 1, none⟩) : Value) from rfl); have r7 := ROW7.out w6 hW.1; have z0 := cell_of_row _ _ 0 _ _ _ r7; have z1 := cell_of_row _ _ 1 _ _ _ r7; have z2 := cell_of_row _ _ 2 _ _ _ r7; have z3 := cell_of_row _ _ 3 _ _ _ r7; clear r7; clear ht ho; simp only [execOp, e54]; go_simp; try rfl)
                      · refine OpH.wr rfl (fun Z us w6 ho ht hni hlim hreq hW K hK => ?_)
                        have e53 := (ht 53 (by decide)).trans (show _ = (.agg #[.int .i64 s.K, .int .i64 s.M, .int .i64 s.size] : Value) from rfl)
                        have e55 := (ht 55 (by decide)).trans (show _ = (.int .i64 len : Value) from rfl)
                        have hcl := HMA.out w6 len (by omega) (by omega)
                        rw [HMN.out] at hcl
                        have eg := (ht 49 (by decide)).trans (show _ = (.bool false : Value) from rfl)
                        refine step_callw (GuardOk.wanted (.at_ (j := 30) (t := 49) (b := false) rfl rfl eg)) 52 #[.tmp 53, .tmp 55] #[23, 3] rfl Try.func52 (by kernel_rfl) (by kernel_rfl) #[.agg #[.int .i64 s.K, .int .i64 s.M, .int .i64 s.size], .int .i64 len] (by simp [e53, e55]; try rfl) hcl ?_
                        rintro e w7 ⟨rfl, hb7⟩
                        exact ⟨_, rfl, hK _ _ (hW.snoc hb7 (fun j v h => h) (⟨fun _ => rfl, fun h => absurd h (by decide)⟩))⟩
                      · (refine OpH.rdg rfl 30 49 false rfl rfl (by decide) (fun _ _ _ => rfl) (fun ρ us w6 ho ht hc hl hsrc hW => ?_); have e52 := (ht 52 (by decide)).trans (show _ = (.int .i64 (n3 : Int) : Value) from rfl); have e56 := (ht 56 (by decide)).trans (show _ = ((us.lookup 37).getD undef : Value) from rfl); rw [(hW.at_ (hsrc 37 (by exact (List.mem_singleton.2 rfl : (37 : Nat) ∈ [37])))).1 rfl] at e56; clear ht ho; simp only [execOp, e52, e56]; go_simp; try rfl)
                      · (refine OpH.rd rfl rfl (fun ρ us w6 ho ht hc hl hsrc hW => ?_); have e49 := (ht 49 (by decide)).trans (show _ = (.bool false : Value) from rfl); have e57 := (ht 57 (by decide)).trans (show _ = (.bool false : Value) from rfl); clear ht ho; simp only [execOp, e49, e57]; go_simp; try rfl)
                      · (refine OpH.rd rfl rfl (fun ρ us w6 ho ht hc hl hsrc hW => ?_); have e58 := (ht 58 (by decide)).trans (show _ = (.bool false : Value) from rfl); clear ht ho; simp only [execOp, e58]; go_simp; try rfl)
                      · (refine OpH.rdg rfl 40 59 false rfl rfl (by decide) (fun _ _ _ => rfl) (fun ρ us w6 ho ht hc hl hsrc hW => ?_); have e2 := (ho 2 rfl).trans (show _ = (.pointer (some ⟨w.heap.size, 0, none⟩) : Value) from rfl); have rr := HROW.out w6 (HB4.out.trans (hW.1.mono hm4)); have z0 := cell_of_row _ _ 0 _ _ _ rr.1; have z1 := cell_of_row _ _ 1 _ _ _ rr.1; have z2 := cell_of_row _ _ 2 _ _ _ rr.1; have x0 := cell_of_row _ _ 0 _ _ _ rr.2; have x1 := cell_of_row _ _ 1 _ _ _ rr.2; have x2 := cell_of_row _ _ 2 _ _ _ rr.2; have x3 := cell_of_row _ _ 3 _ _ _ rr.2; clear rr; clear ht ho; simp only [execOp, e2]; go_simp; try rfl)
                      · (refine OpH.rdg rfl 40 59 false rfl rfl (by decide) (fun _ _ _ => rfl) (fun ρ us w6 ho ht hc hl hsrc hW => ?_); have e3 := (ho 3 rfl).trans (show _ = (.pointer (some ⟨w.heap.size + 1, 0, none⟩) : Value) from rfl); have rr := HROW.out w6 (HB4.out.trans (hW.1.mono hm4)); have z0 := cell_of_row _ _ 0 _ _ _ rr.1; have z1 := cell_of_row _ _ 1 _ _ _ rr.1; have z2 := cell_of_row _ _ 2 _ _ _ rr.1; have x0 := cell_of_row _ _ 0 _ _ _ rr.2; have x1 := cell_of_row _ _ 1 _ _ _ rr.2; have x2 := cell_of_row _ _ 2 _ _ _ rr.2; have x3 := cell_of_row _ _ 3 _ _ _ rr.2; clear rr; clear ht ho; simp only [execOp, e3]; go_simp; try rfl)
                      · (refine OpH.rdg rfl 40 59 false rfl rfl (by decide) (fun _ _ _ => rfl) (fun ρ us w6 ho ht hc hl hsrc hW => ?_); have e7 := (ho 7 rfl).trans (show _ = (.pointer (some ⟨g7, 0, none⟩) : Value) from rfl); have r7 := ROW7.out w6 hW.1; have z0 := cell_of_row _ _ 0 _ _ _ r7; have z1 := cell_of_row _ _ 1 _ _ _ r7; have z2 := cell_of_row _ _ 2 _ _ _ r7; have z3 := cell_of_row _ _ 3 _ _ _ r7; clear r7; clear ht ho; simp only [execOp, e7]; go_simp; try rfl)
                      · refine OpH.wr rfl (fun Z us w6 ho ht hni hlim hreq hW K hK => ?_)
                        have e60 := (ht 60 (by decide)).trans (show _ = (.agg #[.int .i64 s.K, .int .i64 s.M, .int .i64 s.size] : Value) from rfl)
                        have e61 := (ht 61 (by decide)).trans (show _ = (.agg #[.slice A0 n0 c0, .slice (some ⟨bE, oE, none⟩) n1 c1, .slice A2 n2 c2, .int .i64 nx] : Value) from rfl)
                        have e62 := (ht 62 (by decide)).trans (show _ = (.agg #[.string dg, .int .i64 len, .bool man, .slice A3 n3 c3] : Value) from rfl)
                        have hcl := HLE.out w6 (HBW.out w6 (HB4.out.trans (hW.1.mono hm4))) len (by omega) (by omega) dg man A3 n3 c3 ys _ _ (HL34.out.all hW.1)
                        rw [HLF.out] at hcl
                        have eg := (ht 59 (by decide)).trans (show _ = (.bool false : Value) from rfl)
                        refine step_callw (GuardOk.wanted (.at_ (j := 40) (t := 59) (b := false) rfl rfl eg)) 53 #[.tmp 60, .tmp 61, .tmp 62] #[23, 28, 71] rfl Try.func53 (by kernel_rfl) (by kernel_rfl) #[.agg #[.int .i64 s.K, .int .i64 s.M, .int .i64 s.size], .agg #[.slice A0 n0 c0, .slice (some ⟨bE, oE, none⟩) n1 c1, .slice A2 n2 c2, .int .i64 nx], .agg #[.string dg, .int .i64 len, .bool man, .slice A3 n3 c3]] (by simp [e60, e61, e62]; try rfl) hcl ?_
                        rintro e w7 ⟨rfl, hb7⟩
                        exact ⟨_, rfl, hK _ _ (hW.snoc hb7 (fun j v h => h) (⟨fun h => absurd h (by decide), fun _ => rfl⟩))⟩
                      · (refine OpH.rdg rfl 40 59 false rfl rfl (by decide) (fun _ _ _ => rfl) (fun ρ us w6 ho ht hc hl hsrc hW => ?_); have e63 := (ht 63 (by decide)).trans (show _ = ((us.lookup 44).getD undef : Value) from rfl); rw [(hW.at_ (hsrc 44 (by exact (List.mem_singleton.2 rfl : (44 : Nat) ∈ [44])))).2 rfl] at e63; clear ht ho; simp only [execOp, e63]; go_simp; try rfl)
                      · (refine OpH.rd rfl rfl (fun ρ us w6 ho ht hc hl hsrc hW => ?_); have e59 := (ht 59 (by decide)).trans (show _ = (.bool false : Value) from rfl); have e64 := (ht 64 (by decide)).trans (show _ = (.bool false : Value) from rfl); clear ht ho; simp only [execOp, e59, e64]; go_simp; try rfl)
                      -- TSAF
                      · intro us w9 hmem hW
                        simp only [putAll, List.map_cons, List.map_nil, List.foldl_cons, List.foldl_nil, Act.put, List.setIfInBounds_toArray, List.set_cons_succ, List.set_cons_zero]
                        generalize hsv : slotAt _ _ us = sv
                        have hq : sv 65 = (.bool false : Value) := by rw [← hsv]; rfl
                        rw [hq]
                        have HB9 := Lib.hid hW.1
                        clear hsv hq hmem hW
                        go_wp2
                        go_meet
                        case rel => exact ⟨by rw [HAX.out]; rfl, HB9⟩
                    | false =>
                      have HAX : Hid (thingAt s l xs k = false) := Lib.hid hA3
                      clear hA3
                      go_wp2_with fail
                      refine region_free (by kernel_rfl) (by kernel_rfl) 84 rfl [19, 20, 21, 22, 23, 24, 25, 26, 27, 28, 29, 30, 31, 32, 33, 34, 35, 36, 37, 38, 39, 40, 41, 42, 43, 44, 45, 46, 47, 48, 49, 50, 51, 52, 53, 54, 55, 56, 57, 58, 59, 60, 61, 62, 63, 64, 65] [37, 44] [(56, 37), (63, 44)]
                        [(19, [], fun _ => .pointer (some ⟨g7, 0, none⟩)), (20, [], fun _ => .string dg), (21, [], fun _ => .int .i64 (dg.size : Int)), (22, [], fun _ => .bool false), (23, [], fun _ => .bool false), (24, [], fun _ => .int .i64 (k : Int)), (25, [], fun _ => .bool true), (26, [], fun _ => .bool true), (27, [], fun _ => .pointer (some ⟨g7, 0, none⟩)), (28, [], fun _ => .string dg), (29, [], fun _ => .pointer (some ⟨w.heap.size + 1, 1, none⟩)), (30, [], fun _ => .slice (some ⟨bE, oE, none⟩) n1 c1), (31, [], fun _ => .int .i64 (k : Int)), (32, [], fun _ => .int .i64 ((k - 1 : Nat) : Int)), (33, [], fun _ => .pointer (some ⟨bE, oE + (k - 1) * 4, none⟩)), (34, [], fun _ => .pointer (some ⟨bE, oE + (k - 1) * 4, none⟩)), (35, [], fun _ => .string pd), (36, [], fun _ => .bool false), (37, [], fun _ => .bool false), (38, [], fun _ => .bool false), (39, [], fun _ => .bool false), (40, [], fun _ => .pointer (some ⟨g7, 1, none⟩)), (41, [], fun _ => .int .i64 len), (42, [], fun _ => .bool false), (43, [], fun _ => .bool false), (44, [], fun _ => .bool false), (45, [], fun _ => .pointer (some ⟨g7, 1, none⟩)), (46, [], fun _ => .int .i64 len), (47, [], fun _ => .bool false), (48, [], fun _ => .bool false), (49, [], fun _ => .bool false), (50, [], fun _ => .pointer (some ⟨g7, 3, none⟩)), (51, [], fun _ => .slice A3 n3 c3), (52, [], fun _ => .int .i64 (n3 : Int)), (53, [], fun _ => .agg #[.int .i64 s.K, .int .i64 s.M, .int .i64 s.size]), (54, [], fun _ => .pointer (some ⟨g7, 1, none⟩)), (55, [], fun _ => .int .i64 len), (57, [37], fun _ => .bool false), (58, [], fun _ => .bool false), (59, [], fun _ => .bool false), (60, [], fun _ => .agg #[.int .i64 s.K, .int .i64 s.M, .int .i64 s.size]), (61, [], fun _ => .agg #[.slice A0 n0 c0, .slice (some ⟨bE, oE, none⟩) n1 c1, .slice A2 n2 c2, .int .i64 nx]), (62, [], fun _ => .agg #[.string dg, .int .i64 len, .bool man, .slice A3 n3 c3]), (64, [44], fun _ => .bool true), (65, [], fun _ => .bool true)]
                        [] [] [[], [19], [20], [21], [22], [23], [24, 23], [25, 23], [26], [27, 26], [26], [29, 26], [26], [31, 26], [30, 32, 26], [33, 26], [34, 26], [28, 35, 26], [26, 36, 23], [23, 37], [38], [39], [40, 39], [41, 39], [39, 42], [43], [44], [45, 44], [46, 44], [44, 47], [48], [49], [50, 49], [51, 49], [49], [49], [54, 49], [53, 55, 49], [52, 56, 49], [49, 57], [58], [59], [59], [59], [60, 61, 62, 59], [63, 59], [59, 64]]
                        (WdB w4 (fun i v _ => (i = 37 → v = .int .i64 (mn : Int)) ∧ (i = 44 → v = .bool false))) (by kernel_rfl) .init ⟨?_, ?_, ?_, ?_, ?_, ?_, ?_, ?_, ?_, ?_, ?_, ?_, ?_, ?_, ?_, ?_, ?_, ?_, ?_, ?_, ?_, ?_, ?_, ?_, ?_, ?_, ?_, ?_, ?_, ?_, ?_, ?_, ?_, ?_, ?_, ?_, ?_, ?_, ?_, ?_, ?_, ?_, ?_, ?_, ?_, ?_, ?_, trivial⟩ ?_
                      -- FAST47 cdot
                      · (refine OpH.rd rfl rfl (fun ρ us w6 ho ht hc hl hsrc hW => ?_); have e7 := (ho 7 rfl).trans (show _ = (.pointer (some ⟨g7, 0, none⟩) : Value) from rfl); clear ht ho; simp only [execOp, e7]; go_simp; try rfl)
                      · (refine OpH.rd rfl rfl (fun ρ us w6 ho ht hc hl hsrc hW => ?_); have e19 := (ht 19 (by decide)).trans (show _ = (.pointer (some ⟨g7, 0, none⟩) : Value) from rfl); have r7 := ROW7.out w6 hW.1; have z0 := cell_of_row _ _ 0 _ _ _ r7; have z1 := cell_of_row _ _ 1 _ _ _ r7; have z2 := cell_of_row _ _ 2 _ _ _ r7; have z3 := cell_of_row _ _ 3 _ _ _ r7; clear r7; clear ht ho; simp only [execOp, e19]; go_simp; try rfl)
                      · (refine OpH.rd rfl rfl (fun ρ us w6 ho ht hc hl hsrc hW => ?_); have e20 := (ht 20 (by decide)).trans (show _ = (.string dg : Value) from rfl); clear ht ho; simp only [execOp]; go_simp; try rfl)
                      · (refine OpH.rd rfl rfl (fun ρ us w6 ho ht hc hl hsrc hW => ?_); have e21 := (ht 21 (by decide)).trans (show _ = (.int .i64 (dg.size : Int) : Value) from rfl); clear ht ho; simp only [execOp, e21]; go_simp; try rfl)
                      · (refine OpH.rd rfl rfl (fun ρ us w6 ho ht hc hl hsrc hW => ?_); have e22 := (ht 22 (by decide)).trans (show _ = (.bool false : Value) from rfl); clear ht ho; simp only [execOp, e22]; go_simp; try rfl)
                      · (refine OpH.rdg rfl 4 23 false rfl rfl (by decide) (fun _ _ _ => rfl) (fun ρ us w6 ho ht hc hl hsrc hW => ?_); have e6 := (ho 6 rfl).trans (show _ = (.int .i64 (k : Int) : Value) from rfl); clear ht ho; simp only [execOp, e6]; go_simp; try rfl)
                      · (refine OpH.rdg rfl 4 23 false rfl rfl (by decide) (fun _ _ _ => rfl) (fun ρ us w6 ho ht hc hl hsrc hW => ?_); have e24 := (ht 24 (by decide)).trans (show _ = (.int .i64 (k : Int) : Value) from rfl); clear ht ho; simp only [execOp, e24]; go_simp; exact congrArg Value.bool (decide_eq_true (by omega)))
                      · (refine OpH.rdg rfl 4 23 false rfl rfl (by decide) (fun _ _ _ => rfl) (fun ρ us w6 ho ht hc hl hsrc hW => ?_); have e25 := (ht 25 (by decide)).trans (show _ = (.bool true : Value) from rfl); clear ht ho; simp only [execOp, e25]; go_simp; try rfl)
                      · (refine OpH.rdg rfl 7 26 true rfl rfl (by decide) (fun _ _ _ => rfl) (fun ρ us w6 ho ht hc hl hsrc hW => ?_); have e7 := (ho 7 rfl).trans (show _ = (.pointer (some ⟨g7, 0, none⟩) : Value) from rfl); clear ht ho; simp only [execOp, e7]; go_simp; try rfl)
                      · (refine OpH.rdg rfl 7 26 true rfl rfl (by decide) (fun _ _ _ => rfl) (fun ρ us w6 ho ht hc hl hsrc hW => ?_); have e27 := (ht 27 (by decide)).trans (show _ = (.pointer (some ⟨g7, 0, none⟩) : Value) from rfl); have r7 := ROW7.out w6 hW.1; have z0 := cell_of_row _ _ 0 _ _ _ r7; have z1 := cell_of_row _ _ 1 _ _ _ r7; have z2 := cell_of_row _ _ 2 _ _ _ r7; have z3 := cell_of_row _ _ 3 _ _ _ r7; clear r7; clear ht ho; simp only [execOp, e27]; go_simp; try rfl)
                      · (refine OpH.rdg rfl 7 26 true rfl rfl (by decide) (fun _ _ _ => rfl) (fun ρ us w6 ho ht hc hl hsrc hW => ?_); have e3 := (ho 3 rfl).trans (show _ = (.pointer (some ⟨w.heap.size + 1, 0, none⟩) : Value) from rfl); clear ht ho; simp only [execOp, e3]; go_simp; try rfl)
                      · (refine OpH.rdg rfl 7 26 true rfl rfl (by decide) (fun _ _ _ => rfl) (fun ρ us w6 ho ht hc hl hsrc hW => ?_); have e29 := (ht 29 (by decide)).trans (show _ = (.pointer (some ⟨w.heap.size + 1, 1, none⟩) : Value) from rfl); have rr := HROW.out w6 (HB4.out.trans (hW.1.mono hm4)); have z0 := cell_of_row _ _ 0 _ _ _ rr.1; have z1 := cell_of_row _ _ 1 _ _ _ rr.1; have z2 := cell_of_row _ _ 2 _ _ _ rr.1; have x0 := cell_of_row _ _ 0 _ _ _ rr.2; have x1 := cell_of_row _ _ 1 _ _ _ rr.2; have x2 := cell_of_row _ _ 2 _ _ _ rr.2; have x3 := cell_of_row _ _ 3 _ _ _ rr.2; clear rr; clear ht ho; simp only [execOp, e29]; go_simp; try rfl)
                      · (refine OpH.rdg rfl 7 26 true rfl rfl (by decide) (fun _ _ _ => rfl) (fun ρ us w6 ho ht hc hl hsrc hW => ?_); have e6 := (ho 6 rfl).trans (show _ = (.int .i64 (k : Int) : Value) from rfl); clear ht ho; simp only [execOp, e6]; go_simp; try rfl)
                      · (refine OpH.rdg rfl 7 26 true rfl rfl (by decide) (fun _ _ _ => rfl) (fun ρ us w6 ho ht hc hl hsrc hW => ?_); have e31 := (ht 31 (by decide)).trans (show _ = (.int .i64 (k : Int) : Value) from rfl); clear ht ho; simp only [execOp, e31]; go_simp; rw [Go.IntWalk.i64_in _ (by omega)]; rfl)
                      · (refine OpH.rdg rfl 7 26 true rfl rfl (by decide) (fun _ _ _ => rfl) (fun ρ us w6 ho ht hc hl hsrc hW => ?_); have e30 := (ht 30 (by decide)).trans (show _ = (.slice (some ⟨bE, oE, none⟩) n1 c1 : Value) from rfl); have e32 := (ht 32 (by decide)).trans (show _ = (.int .i64 ((k - 1 : Nat) : Int) : Value) from rfl); clear ht ho; simp only [execOp, e30, e32]; go_simp; rw [if_pos (by omega)]; rfl)
                      · (refine OpH.rdg rfl 7 26 true rfl rfl (by decide) (fun _ _ _ => rfl) (fun ρ us w6 ho ht hc hl hsrc hW => ?_); have e33 := (ht 33 (by decide)).trans (show _ = (.pointer (some ⟨bE, oE + (k - 1) * 4, none⟩) : Value) from rfl); clear ht ho; simp only [execOp, e33]; go_simp; try rfl)
                      · (refine OpH.rdg rfl 7 26 true rfl rfl (by decide) (fun _ _ _ => rfl) (fun ρ us w6 ho ht hc hl hsrc hW => ?_); have e34 := (ht 34 (by decide)).trans (show _ = (.pointer (some ⟨bE, oE + (k - 1) * 4, none⟩) : Value) from rfl); have z2 := HPC.out w6 hW.1; clear ht ho; simp only [execOp, e34]; go_simp; try rfl)
                      · (refine OpH.rdg rfl 7 26 true rfl rfl (by decide) (fun _ _ _ => rfl) (fun ρ us w6 ho ht hc hl hsrc hW => ?_); have e28 := (ht 28 (by decide)).trans (show _ = (.string dg : Value) from rfl); have e35 := (ht 35 (by decide)).trans (show _ = (.string pd : Value) from rfl); clear ht ho; simp only [execOp, e28, e35]; go_simp; rw [run_leq]; simp only [Result.andThen, hle]; rfl)
                      · (refine OpH.rdg rfl 4 23 false rfl rfl (by decide) (fun _ _ _ => rfl) (fun ρ us w6 ho ht hc hl hsrc hW => ?_); have e26 := (ht 26 (by decide)).trans (show _ = (.bool true : Value) from rfl); have e36 := (ht 36 (by decide)).trans (show _ = (.bool false : Value) from rfl); clear ht ho; simp only [execOp, e26, e36]; go_simp; try rfl)
                      · (refine OpH.rd rfl rfl (fun ρ us w6 ho ht hc hl hsrc hW => ?_); have e23 := (ht 23 (by decide)).trans (show _ = (.bool false : Value) from rfl); have e37 := (ht 37 (by decide)).trans (show _ = (.bool false : Value) from rfl); clear ht ho; simp only [execOp, e23, e37]; go_simp; try rfl)
                      · (refine OpH.rd rfl rfl (fun ρ us w6 ho ht hc hl hsrc hW => ?_); have e38 := (ht 38 (by decide)).trans (show _ = (.bool false : Value) from rfl); clear ht ho; simp only [execOp, e38]; go_simp; try rfl)
                      · (refine OpH.rdg rfl 20 39 false rfl rfl (by decide) (fun _ _ _ => rfl) (fun ρ us w6 ho ht hc hl hsrc hW => ?_); have e7 := (ho 7 rfl).trans (show _ = (.pointer (some ⟨g7, 0, none⟩) : Value) from rfl); clear ht ho; simp only [execOp, e7]; go_simp; try rfl)
                      · (refine OpH.rdg rfl 20 39 false rfl rfl (by decide) (fun _ _ _ => rfl) (fun ρ us w6 ho ht hc hl hsrc hW => ?_); have e40 := (ht 40 (by decide)).trans (show _ = (.pointer (some ⟨g7, 1, none⟩) : Value) from rfl); have r7 := ROW7.out w6 hW.1; have z0 := cell_of_row _ _ 0 _ _ _ r7; have z1 := cell_of_row _ _ 1 _ _ _ r7; have z2 := cell_of_row _ _ 2 _ _ _ r7; have z3 := cell_of_row _ _ 3 _ _ _ r7; clear r7; clear ht ho; simp only [execOp, e40]; go_simp; try rfl)
                      · (refine OpH.rdg rfl 20 39 false rfl rfl (by decide) (fun _ _ _ => rfl) (fun ρ us w6 ho ht hc hl hsrc hW => ?_); have e41 := (ht 41 (by decide)).trans (show _ = (.int .i64 len : Value) from rfl); clear ht ho; simp only [execOp, e41]; go_simp; exact congrArg Value.bool (decide_eq_false (by omega)))
                      · (refine OpH.rd rfl rfl (fun ρ us w6 ho ht hc hl hsrc hW => ?_); have e39 := (ht 39 (by decide)).trans (show _ = (.bool false : Value) from rfl); have e42 := (ht 42 (by decide)).trans (show _ = (.bool false : Value) from rfl); clear ht ho; simp only [execOp, e39, e42]; go_simp; try rfl)
                      · (refine OpH.rd rfl rfl (fun ρ us w6 ho ht hc hl hsrc hW => ?_); have e43 := (ht 43 (by decide)).trans (show _ = (.bool false : Value) from rfl); clear ht ho; simp only [execOp, e43]; go_simp; try rfl)
                      · (refine OpH.rdg rfl 25 44 false rfl rfl (by decide) (fun _ _ _ => rfl) (fun ρ us w6 ho ht hc hl hsrc hW => ?_); have e7 := (ho 7 rfl).trans (show _ = (.pointer (some ⟨g7, 0, none⟩) : Value) from rfl); clear ht ho; simp only [execOp, e7]; go_simp; try rfl)
                      · (refine OpH.rdg rfl 25 44 false rfl rfl (by decide) (fun _ _ _ => rfl) (fun ρ us w6 ho ht hc hl hsrc hW => ?_); have e45 := (ht 45 (by decide)).trans (show _ = (.pointer (some ⟨g7, 1, none⟩) : Value) from rfl); have r7 := ROW7.out w6 hW.1; have z0 := cell_of_row _ _ 0 _ _ _ r7; have z1 := cell_of_row _ _ 1 _ _ _ r7; have z2 := cell_of_row _ _ 2 _ _ _ r7; have z3 := cell_of_row _ _ 3 _ _ _ r7; clear r7; clear ht ho; simp only [execOp, e45]; go_simp; try rfl)
                      · (refine OpH.rdg rfl 25 44 false rfl rfl (by decide) (fun _ _ _ => rfl) (fun ρ us w6 ho ht hc hl hsrc hW => ?_); have e46 := (ht 46 (by decide)).trans (show _ = (.int .i64 len : Value) from rfl); clear ht ho; simp only [execOp, e46]; go_simp; exact congrArg Value.bool (decide_eq_false (by omega)))
                      · (refine OpH.rd rfl rfl (fun ρ us w6 ho ht hc hl hsrc hW => ?_); have e44 := (ht 44 (by decide)).trans (show _ = (.bool false : Value) from rfl); have e47 := (ht 47 (by decide)).trans (show _ = (.bool false : Value) from rfl); clear ht ho; simp only [execOp, e44, e47]; go_simp; try rfl)
                      · (refine OpH.rd rfl rfl (fun ρ us w6 ho ht hc hl hsrc hW => ?_); have e48 := (ht 48 (by decide)).trans (show _ = (.bool false : Value) from rfl); clear ht ho; simp only [execOp, e48]; go_simp; try rfl)
                      · (refine OpH.rdg rfl 30 49 false rfl rfl (by decide) (fun _ _ _ => rfl) (fun ρ us w6 ho ht hc hl hsrc hW => ?_); have e7 := (ho 7 rfl).trans (show _ = (.pointer (some ⟨g7, 0, none⟩) : Value) from rfl); clear ht ho; simp only [execOp, e7]; go_simp; try rfl)
                      · (refine OpH.rdg rfl 30 49 false rfl rfl (by decide) (fun _ _ _ => rfl) (fun ρ us w6 ho ht hc hl hsrc hW => ?_); have e50 := (ht 50 (by decide)).trans (show _ = (.pointer (some ⟨g7, 3, none⟩) : Value) from rfl); have r7 := ROW7.out w6 hW.1; have z0 := cell_of_row _ _ 0 _ _ _ r7; have z1 := cell_of_row _ _ 1 _ _ _ r7; have z2 := cell_of_row _ _ 2 _ _ _ r7; have z3 := cell_of_row _ _ 3 _ _ _ r7; clear r7; clear ht ho; simp only [execOp, e50]; go_simp; try rfl)
                      · (refine OpH.rdg rfl 30 49 false rfl rfl (by decide) (fun _ _ _ => rfl) (fun ρ us w6 ho ht hc hl hsrc hW => ?_); have e51 := (ht 51 (by decide)).trans (show _ = (.slice A3 n3 c3 : Value) from rfl); clear ht ho; simp only [execOp]; go_simp; try rfl)
                      · (refine OpH.rdg rfl 30 49 false rfl rfl (by decide) (fun _ _ _ => rfl) (fun ρ us w6 ho ht hc hl hsrc hW => ?_); have e2 := (ho 2 rfl).trans (show _ = (.pointer (some ⟨w.heap.size, 0, none⟩) : Value) from rfl); have rr := HROW.out w6 (HB4.out.trans (hW.1.mono hm4)); have z0 := cell_of_row _ _ 0 _ _ _ rr.1; have z1 := cell_of_row _ _ 1 _ _ _ rr.1; have z2 := cell_of_row _ _ 2 _ _ _ rr.1; have x0 := cell_of_row _ _ 0 _ _ _ rr.2; have x1 := cell_of_row _ _ 1 _ _ _ rr.2; have x2 := cell_of_row _ _ 2 _ _ _ rr.2; have x3 := cell_of_row _ _ 3 _ _ _ rr.2; clear rr; clear ht ho; simp only [execOp, e2]; go_simp; try rfl)
                      · (refine OpH.rdg rfl 30 49 false rfl rfl (by decide) (fun _ _ _ => rfl) (fun ρ us w6 ho ht hc hl hsrc hW => ?_); have e7 := (ho 7 rfl).trans (show _ = (.pointer (some ⟨g7, 0, none⟩) : Value) from rfl); clear ht ho; simp only [execOp, e7]; go_simp; try rfl)
                      · (refine OpH.rdg rfl 30 49 false rfl rfl (by decide) (fun _ _ _ => rfl) (fun ρ us w6 ho ht hc hl hsrc hW => ?_); have e54 := (ht 54 (by decide)).trans (show _ = (.pointer (some ⟨g7, 1, none⟩) : Value) from rfl); have r7 := ROW7.out w6 hW.1; have z0 := cell_of_row _ _ 0 _ _ _ r7; have z1 := cell_of_row _ _ 1 _ _ _ r7; have z2 := cell_of_row _ _ 2 _ _ _ r7; have z3 := cell_of_row _ _ 3 _ _ _ r7; clear r7; clear ht ho; simp only [execOp, e54]; go_simp; try rfl)
                      · refine OpH.wr rfl (fun Z us w6 ho ht hni hlim hreq hW K hK => ?_)
                        have e53 := (ht 53 (by decide)).trans (show _ = (.agg #[.int .i64 s.K, .int .i64 s.M, .int .i64 s.size] : Value) from rfl)
                        have e55 := (ht 55 (by decide)).trans (show _ = (.int .i64 len : Value) from rfl)
                        have hcl := HMA.out w6 len (by omega) (by omega)
                        rw [HMN.out] at hcl
                        have eg := (ht 49 (by decide)).trans (show _ = (.bool false : Value) from rfl)
                        refine step_callw (GuardOk.wanted (.at_ (j := 30) (t := 49) (b := false) rfl rfl eg)) 52 #[.tmp 53, .tmp 55] #[23, 3] rfl Try.func52 (by kernel_rfl) (by kernel_rfl) #[.agg #[.int .i64 s.K, .int .i64 s.M, .int .i64 s.size], .int .i64 len] (by simp [e53, e55]; try rfl) hcl ?_
                        rintro e w7 ⟨rfl, hb7⟩
                        exact ⟨_, rfl, hK _ _ (hW.snoc hb7 (fun j v h => h) (⟨fun _ => rfl, fun h => absurd h (by decide)⟩))⟩
                      · (refine OpH.rdg rfl 30 49 false rfl rfl (by decide) (fun _ _ _ => rfl) (fun ρ us w6 ho ht hc hl hsrc hW => ?_); have e52 := (ht 52 (by decide)).trans (show _ = (.int .i64 (n3 : Int) : Value) from rfl); have e56 := (ht 56 (by decide)).trans (show _ = ((us.lookup 37).getD undef : Value) from rfl); rw [(hW.at_ (hsrc 37 (by exact (List.mem_singleton.2 rfl : (37 : Nat) ∈ [37])))).1 rfl] at e56; clear ht ho; simp only [execOp, e52, e56]; go_simp; try rfl)
                      · (refine OpH.rd rfl rfl (fun ρ us w6 ho ht hc hl hsrc hW => ?_); have e49 := (ht 49 (by decide)).trans (show _ = (.bool false : Value) from rfl); have e57 := (ht 57 (by decide)).trans (show _ = (.bool false : Value) from rfl); clear ht ho; simp only [execOp, e49, e57]; go_simp; try rfl)
                      · (refine OpH.rd rfl rfl (fun ρ us w6 ho ht hc hl hsrc hW => ?_); have e58 := (ht 58 (by decide)).trans (show _ = (.bool false : Value) from rfl); clear ht ho; simp only [execOp, e58]; go_simp; try rfl)
                      · (refine OpH.rdg rfl 40 59 false rfl rfl (by decide) (fun _ _ _ => rfl) (fun ρ us w6 ho ht hc hl hsrc hW => ?_); have e2 := (ho 2 rfl).trans (show _ = (.pointer (some ⟨w.heap.size, 0, none⟩) : Value) from rfl); have rr := HROW.out w6 (HB4.out.trans (hW.1.mono hm4)); have z0 := cell_of_row _ _ 0 _ _ _ rr.1; have z1 := cell_of_row _ _ 1 _ _ _ rr.1; have z2 := cell_of_row _ _ 2 _ _ _ rr.1; have x0 := cell_of_row _ _ 0 _ _ _ rr.2; have x1 := cell_of_row _ _ 1 _ _ _ rr.2; have x2 := cell_of_row _ _ 2 _ _ _ rr.2; have x3 := cell_of_row _ _ 3 _ _ _ rr.2; clear rr; clear ht ho; simp only [execOp, e2]; go_simp; try rfl)
                      · (refine OpH.rdg rfl 40 59 false rfl rfl (by decide) (fun _ _ _ => rfl) (fun ρ us w6 ho ht hc hl hsrc hW => ?_); have e3 := (ho 3 rfl).trans (show _ = (.pointer (some ⟨w.heap.size + 1, 0, none⟩) : Value) from rfl); have rr := HROW.out w6 (HB4.out.trans (hW.1.mono hm4)); have z0 := cell_of_row _ _ 0 _ _ _ rr.1; have z1 := cell_of_row _ _ 1 _ _ _ rr.1; have z2 := cell_of_row _ _ 2 _ _ _ rr.1; have x0 := cell_of_row _ _ 0 _ _ _ rr.2; have x1 := cell_of_row _ _ 1 _ _ _ rr.2; have x2 := cell_of_row _ _ 2 _ _ _ rr.2; have x3 := cell_of_row _ _ 3 _ _ _ rr.2; clear rr; clear ht ho; simp only [execOp, e3]; go_simp; try rfl)
                      · (refine OpH.rdg rfl 40 59 false rfl rfl (by decide) (fun _ _ _ => rfl) (fun ρ us w6 ho ht hc hl hsrc hW => ?_); have e7 := (ho 7 rfl).trans (show _ = (.pointer (some ⟨g7, 0, none⟩) : Value) from rfl); have r7 := ROW7.out w6 hW.1; have z0 := cell_of_row _ _ 0 _ _ _ r7; have z1 := cell_of_row _ _ 1 _ _ _ r7; have z2 := cell_of_row _ _ 2 _ _ _ r7; have z3 := cell_of_row _ _ 3 _ _ _ r7; clear r7; clear ht ho; simp only [execOp, e7]; go_simp; try rfl)
                      · refine OpH.wr rfl (fun Z us w6 ho ht hni hlim hreq hW K hK => ?_)
                        have e60 := (ht 60 (by decide)).trans (show _ = (.agg #[.int .i64 s.K, .int .i64 s.M, .int .i64 s.size] : Value) from rfl)
                        have e61 := (ht 61 (by decide)).trans (show _ = (.agg #[.slice A0 n0 c0, .slice (some ⟨bE, oE, none⟩) n1 c1, .slice A2 n2 c2, .int .i64 nx] : Value) from rfl)
                        have e62 := (ht 62 (by decide)).trans (show _ = (.agg #[.string dg, .int .i64 len, .bool man, .slice A3 n3 c3] : Value) from rfl)
                        have hcl := HLE.out w6 (HBW.out w6 (HB4.out.trans (hW.1.mono hm4))) len (by omega) (by omega) dg man A3 n3 c3 ys _ _ (HL34.out.all hW.1)
                        rw [HLF.out] at hcl
                        have eg := (ht 59 (by decide)).trans (show _ = (.bool false : Value) from rfl)
                        refine step_callw (GuardOk.wanted (.at_ (j := 40) (t := 59) (b := false) rfl rfl eg)) 53 #[.tmp 60, .tmp 61, .tmp 62] #[23, 28, 71] rfl Try.func53 (by kernel_rfl) (by kernel_rfl) #[.agg #[.int .i64 s.K, .int .i64 s.M, .int .i64 s.size], .agg #[.slice A0 n0 c0, .slice (some ⟨bE, oE, none⟩) n1 c1, .slice A2 n2 c2, .int .i64 nx], .agg #[.string dg, .int .i64 len, .bool man, .slice A3 n3 c3]] (by simp [e60, e61, e62]; try rfl) hcl ?_
                        rintro e w7 ⟨rfl, hb7⟩
                        exact ⟨_, rfl, hK _ _ (hW.snoc hb7 (fun j v h => h) (⟨fun h => absurd h (by decide), fun _ => rfl⟩))⟩
                      · (refine OpH.rdg rfl 40 59 false rfl rfl (by decide) (fun _ _ _ => rfl) (fun ρ us w6 ho ht hc hl hsrc hW => ?_); have e63 := (ht 63 (by decide)).trans (show _ = ((us.lookup 44).getD undef : Value) from rfl); rw [(hW.at_ (hsrc 44 (by exact (List.mem_singleton.2 rfl : (44 : Nat) ∈ [44])))).2 rfl] at e63; clear ht ho; simp only [execOp, e63]; go_simp; try rfl)
                      · (refine OpH.rd rfl rfl (fun ρ us w6 ho ht hc hl hsrc hW => ?_); have e59 := (ht 59 (by decide)).trans (show _ = (.bool false : Value) from rfl); have e64 := (ht 64 (by decide)).trans (show _ = (.bool true : Value) from rfl); clear ht ho; simp only [execOp, e59, e64]; go_simp; try rfl)
                      -- TSAF
                      · intro us w9 hmem hW
                        simp only [putAll, List.map_cons, List.map_nil, List.foldl_cons, List.foldl_nil, Act.put, List.setIfInBounds_toArray, List.set_cons_succ, List.set_cons_zero]
                        generalize hsv : slotAt _ _ us = sv
                        have hq : sv 65 = (.bool true : Value) := by rw [← hsv]; rfl
                        rw [hq]
                        have HB9 := Lib.hid hW.1
                        clear hsv hq hmem hW
                        go_wp2
                        go_meet
                        case rel => exact ⟨by rw [HAX.out]; rfl, HB9⟩
                  · have cE' : ((n3 : Int) != (mn : Int)) = true := by simp; omega
                    rw [decide_eq_false cE] at hA3
                    have HAX : Hid (thingAt s l xs k = false) := Lib.hid hA3
                    clear hA3 cE
                    go_wp2_with fail
                    refine region_free (by kernel_rfl) (by kernel_rfl) 84 rfl [19, 20, 21, 22, 23, 24, 25, 26, 27, 28, 29, 30, 31, 32, 33, 34, 35, 36, 37, 38, 39, 40, 41, 42, 43, 44, 45, 46, 47, 48, 49, 50, 51, 52, 53, 54, 55, 56, 57, 58, 59, 60, 61, 62, 63, 64, 65] [37] [(56, 37)]
                      [(19, [], fun _ => .pointer (some ⟨g7, 0, none⟩)), (20, [], fun _ => .string dg), (21, [], fun _ => .int .i64 (dg.size : Int)), (22, [], fun _ => .bool false), (23, [], fun _ => .bool false), (24, [], fun _ => .int .i64 (k : Int)), (25, [], fun _ => .bool true), (26, [], fun _ => .bool true), (27, [], fun _ => .pointer (some ⟨g7, 0, none⟩)), (28, [], fun _ => .string dg), (29, [], fun _ => .pointer (some ⟨w.heap.size + 1, 1, none⟩)), (30, [], fun _ => .slice (some ⟨bE, oE, none⟩) n1 c1), (31, [], fun _ => .int .i64 (k : Int)), (32, [], fun _ => .int .i64 ((k - 1 : Nat) : Int)), (33, [], fun _ => .pointer (some ⟨bE, oE + (k - 1) * 4, none⟩)), (34, [], fun _ => .pointer (some ⟨bE, oE + (k - 1) * 4, none⟩)), (35, [], fun _ => .string pd), (36, [], fun _ => .bool false), (37, [], fun _ => .bool false), (38, [], fun _ => .bool false), (39, [], fun _ => .bool false), (40, [], fun _ => .pointer (some ⟨g7, 1, none⟩)), (41, [], fun _ => .int .i64 len), (42, [], fun _ => .bool false), (43, [], fun _ => .bool false), (44, [], fun _ => .bool false), (45, [], fun _ => .pointer (some ⟨g7, 1, none⟩)), (46, [], fun _ => .int .i64 len), (47, [], fun _ => .bool false), (48, [], fun _ => .bool false), (49, [], fun _ => .bool false), (50, [], fun _ => .pointer (some ⟨g7, 3, none⟩)), (51, [], fun _ => .slice A3 n3 c3), (52, [], fun _ => .int .i64 (n3 : Int)), (53, [], fun _ => .agg #[.int .i64 s.K, .int .i64 s.M, .int .i64 s.size]), (54, [], fun _ => .pointer (some ⟨g7, 1, none⟩)), (55, [], fun _ => .int .i64 len), (57, [37], fun _ => .bool true), (58, [], fun _ => .bool true), (59, [], fun _ => .bool true), (60, [], fun _ => undef), (61, [], fun _ => undef), (62, [], fun _ => undef), (63, [], fun _ => undef), (64, [], fun _ => undef), (65, [], fun _ => .bool true)]
                      [] [] [[], [19], [20], [21], [22], [23], [24, 23], [25, 23], [26], [27, 26], [26], [29, 26], [26], [31, 26], [30, 32, 26], [33, 26], [34, 26], [28, 35, 26], [26, 36, 23], [23, 37], [38], [39], [40, 39], [41, 39], [39, 42], [43], [44], [45, 44], [46, 44], [44, 47], [48], [49], [50, 49], [51, 49], [49], [49], [54, 49], [53, 55, 49], [52, 56, 49], [49, 57], [58], [59], [59], [59], [60, 61, 62, 59], [63, 59], [59, 64]]
                      (WdB w4 (fun i v _ => (i = 37 → v = .int .i64 (mn : Int)) ∧ (i = 44 → v = .bool false))) (by kernel_rfl) .init ⟨?_, ?_, ?_, ?_, ?_, ?_, ?_, ?_, ?_, ?_, ?_, ?_, ?_, ?_, ?_, ?_, ?_, ?_, ?_, ?_, ?_, ?_, ?_, ?_, ?_, ?_, ?_, ?_, ?_, ?_, ?_, ?_, ?_, ?_, ?_, ?_, ?_, ?_, ?_, ?_, ?_, ?_, ?_, ?_, ?_, ?_, ?_, trivial⟩ ?_
                    -- FAST47 cdot
                    · (refine OpH.rd rfl rfl (fun ρ us w6 ho ht hc hl hsrc hW => ?_); have e7 := (ho 7 rfl).trans (show _ = (.pointer (some ⟨g7, 0, none⟩) : Value) from rfl); clear ht ho; simp only [execOp, e7]; go_simp; try rfl)
                    · (refine OpH.rd rfl rfl (fun ρ us w6 ho ht hc hl hsrc hW => ?_); have e19 := (ht 19 (by decide)).trans (show _ = (.pointer (some ⟨g7, 0, none⟩) : Value) from rfl); have r7 := ROW7.out w6 hW.1; have z0 := cell_of_row _ _ 0 _ _ _ r7; have z1 := cell_of_row _ _ 1 _ _ _ r7; have z2 := cell_of_row _ _ 2 _ _ _ r7; have z3 := cell_of_row _ _ 3 _ _ _ r7; clear r7; clear ht ho; simp only [execOp, e19]; go_simp; try rfl)
                    · (refine OpH.rd rfl rfl (fun ρ us w6 ho ht hc hl hsrc hW => ?_); have e20 := (ht 20 (by decide)).trans (show _ = (.string dg : Value) from rfl); clear ht ho; simp only [execOp]; go_simp; try rfl)
                    · (refine OpH.rd rfl rfl (fun ρ us w6 ho ht hc hl hsrc hW => ?_); have e21 := (ht 21 (by decide)).trans (show _ = (.int .i64 (dg.size : Int) : Value) from rfl); clear ht ho; simp only [execOp, e21]; go_simp; try rfl)
                    · (refine OpH.rd rfl rfl (fun ρ us w6 ho ht hc hl hsrc hW => ?_); have e22 := (ht 22 (by decide)).trans (show _ = (.bool false : Value) from rfl); clear ht ho; simp only [execOp, e22]; go_simp; try rfl)
                    · (refine OpH.rdg rfl 4 23 false rfl rfl (by decide) (fun _ _ _ => rfl) (fun ρ us w6 ho ht hc hl hsrc hW => ?_); have e6 := (ho 6 rfl).trans (show _ = (.int .i64 (k : Int) : Value) from rfl); clear ht ho; simp only [execOp, e6]; go_simp; try rfl)
                    · (refine OpH.rdg rfl 4 23 false rfl rfl (by decide) (fun _ _ _ => rfl) (fun ρ us w6 ho ht hc hl hsrc hW => ?_); have e24 := (ht 24 (by decide)).trans (show _ = (.int .i64 (k : Int) : Value) from rfl); clear ht ho; simp only [execOp, e24]; go_simp; exact congrArg Value.bool (decide_eq_true (by omega)))
                    · (refine OpH.rdg rfl 4 23 false rfl rfl (by decide) (fun _ _ _ => rfl) (fun ρ us w6 ho ht hc hl hsrc hW => ?_); have e25 := (ht 25 (by decide)).trans (show _ = (.bool true : Value) from rfl); clear ht ho; simp only [execOp, e25]; go_simp; try rfl)
                    · (refine OpH.rdg rfl 7 26 true rfl rfl (by decide) (fun _ _ _ => rfl) (fun ρ us w6 ho ht hc hl hsrc hW => ?_); have e7 := (ho 7 rfl).trans (show _ = (.pointer (some ⟨g7, 0, none⟩) : Value) from rfl); clear ht ho; simp only [execOp, e7]; go_simp; try rfl)
                    · (refine OpH.rdg rfl 7 26 true rfl rfl (by decide) (fun _ _ _ => rfl) (fun ρ us w6 ho ht hc hl hsrc hW => ?_); have e27 := (ht 27 (by decide)).trans (show _ = (.pointer (some ⟨g7, 0, none⟩) : Value) from rfl); have r7 := ROW7.out w6 hW.1; have z0 := cell_of_row _ _ 0 _ _ _ r7; have z1 := cell_of_row _ _ 1 _ _ _ r7; have z2 := cell_of_row _ _ 2 _ _ _ r7; have z3 := cell_of_row _ _ 3 _ _ _ r7; clear r7; clear ht ho; simp only [execOp, e27]; go_simp; try rfl)
                    · (refine OpH.rdg rfl 7 26 true rfl rfl (by decide) (fun _ _ _ => rfl) (fun ρ us w6 ho ht hc hl hsrc hW => ?_); have e3 := (ho 3 rfl).trans (show _ = (.pointer (some ⟨w.heap.size + 1, 0, none⟩) : Value) from rfl); clear ht ho; simp only [execOp, e3]; go_simp; try rfl)
                    · (refine OpH.rdg rfl 7 26 true rfl rfl (by decide) (fun _ _ _ => rfl) (fun ρ us w6 ho ht hc hl hsrc hW => ?_); have e29 := (ht 29 (by decide)).trans (show _ = (.pointer (some ⟨w.heap.size + 1, 1, none⟩) : Value) from rfl); have rr := HROW.out w6 (HB4.out.trans (hW.1.mono hm4)); have z0 := cell_of_row _ _ 0 _ _ _ rr.1; have z1 := cell_of_row _ _ 1 _ _ _ rr.1; have z2 := cell_of_row _ _ 2 _ _ _ rr.1; have x0 := cell_of_row _ _ 0 _ _ _ rr.2; have x1 := cell_of_row _ _ 1 _ _ _ rr.2; have x2 := cell_of_row _ _ 2 _ _ _ rr.2; have x3 := cell_of_row _ _ 3 _ _ _ rr.2; clear rr; clear ht ho; simp only [execOp, e29]; go_simp; try rfl)
                    · (refine OpH.rdg rfl 7 26 true rfl rfl (by decide) (fun _ _ _ => rfl) (fun ρ us w6 ho ht hc hl hsrc hW => ?_); have e6 := (ho 6 rfl).trans (show _ = (.int .i64 (k : Int) : Value) from rfl); clear ht ho; simp only [execOp, e6]; go_simp; try rfl)
                    · (refine OpH.rdg rfl 7 26 true rfl rfl (by decide) (fun _ _ _ => rfl) (fun ρ us w6 ho ht hc hl hsrc hW => ?_); have e31 := (ht 31 (by decide)).trans (show _ = (.int .i64 (k : Int) : Value) from rfl); clear ht ho; simp only [execOp, e31]; go_simp; rw [Go.IntWalk.i64_in _ (by omega)]; rfl)
                    · (refine OpH.rdg rfl 7 26 true rfl rfl (by decide) (fun _ _ _ => rfl) (fun ρ us w6 ho ht hc hl hsrc hW => ?_); have e30 := (ht 30 (by decide)).trans (show _ = (.slice (some ⟨bE, oE, none⟩) n1 c1 : Value) from rfl); have e32 := (ht 32 (by decide)).trans (show _ = (.int .i64 ((k - 1 : Nat) : Int) : Value) from rfl); clear ht ho; simp only [execOp, e30, e32]; go_simp; rw [if_pos (by omega)]; rfl)
                    · (refine OpH.rdg rfl 7 26 true rfl rfl (by decide) (fun _ _ _ => rfl) (fun ρ us w6 ho ht hc hl hsrc hW => ?_); have e33 := (ht 33 (by decide)).trans (show _ = (.pointer (some ⟨bE, oE + (k - 1) * 4, none⟩) : Value) from rfl); clear ht ho; simp only [execOp, e33]; go_simp; try rfl)
                    · (refine OpH.rdg rfl 7 26 true rfl rfl (by decide) (fun _ _ _ => rfl) (fun ρ us w6 ho ht hc hl hsrc hW => ?_); have e34 := (ht 34 (by decide)).trans (show _ = (.pointer (some ⟨bE, oE + (k - 1) * 4, none⟩) : Value) from rfl); have z2 := HPC.out w6 hW.1; clear ht ho; simp only [execOp, e34]; go_simp; try rfl)
                    · (refine OpH.rdg rfl 7 26 true rfl rfl (by decide) (fun _ _ _ => rfl) (fun ρ us w6 ho ht hc hl hsrc hW => ?_); have e28 := (ht 28 (by decide)).trans (show _ = (.string dg : Value) from rfl); have e35 := (ht 35 (by decide)).trans (show _ = (.string pd : Value) from rfl); clear ht ho; simp only [execOp, e28, e35]; go_simp; rw [run_leq]; simp only [Result.andThen, hle]; rfl)
                    · (refine OpH.rdg rfl 4 23 false rfl rfl (by decide) (fun _ _ _ => rfl) (fun ρ us w6 ho ht hc hl hsrc hW => ?_); have e26 := (ht 26 (by decide)).trans (show _ = (.bool true : Value) from rfl); have e36 := (ht 36 (by decide)).trans (show _ = (.bool false : Value) from rfl); clear ht ho; simp only [execOp, e26, e36]; go_simp; try rfl)
                    · (refine OpH.rd rfl rfl (fun ρ us w6 ho ht hc hl hsrc hW => ?_); have e23 := (ht 23 (by decide)).trans (show _ = (.bool false : Value) from rfl); have e37 := (ht 37 (by decide)).trans (show _ = (.bool false : Value) from rfl); clear ht ho; simp only [execOp, e23, e37]; go_simp; try rfl)
                    · (refine OpH.rd rfl rfl (fun ρ us w6 ho ht hc hl hsrc hW => ?_); have e38 := (ht 38 (by decide)).trans (show _ = (.bool false : Value) from rfl); clear ht ho; simp only [execOp, e38]; go_simp; try rfl)
                    · (refine OpH.rdg rfl 20 39 false rfl rfl (by decide) (fun _ _ _ => rfl) (fun ρ us w6 ho ht hc hl hsrc hW => ?_); have e7 := (ho 7 rfl).trans (show _ = (.pointer (some ⟨g7, 0, none⟩) : Value) from rfl); clear ht ho; simp only [execOp, e7]; go_simp; try rfl)
                    · (refine OpH.rdg rfl 20 39 false rfl rfl (by decide) (fun _ _ _ => rfl) (fun ρ us w6 ho ht hc hl hsrc hW => ?_); have e40 := (ht 40 (by decide)).trans (show _ = (.pointer (some ⟨g7, 1, none⟩) : Value) from rfl); have r7 := ROW7.out w6 hW.1; have z0 := cell_of_row _ _ 0 _ _ _ r7; have z1 := cell_of_row _ _ 1 _ _ _ r7; have z2 := cell_of_row _ _ 2 _ _ _ r7; have z3 := cell_of_row _ _ 3 _ _ _ r7; clear r7; clear ht ho; simp only [execOp, e40]; go_simp; try rfl)
                    · (refine OpH.rdg rfl 20 39 false rfl rfl (by decide) (fun _ _ _ => rfl) (fun ρ us w6 ho ht hc hl hsrc hW => ?_); have e41 := (ht 41 (by decide)).trans (show _ = (.int .i64 len : Value) from rfl); clear ht ho; simp only [execOp, e41]; go_simp; exact congrArg Value.bool (decide_eq_false (by omega)))
                    · (refine OpH.rd rfl rfl (fun ρ us w6 ho ht hc hl hsrc hW => ?_); have e39 := (ht 39 (by decide)).trans (show _ = (.bool false : Value) from rfl); have e42 := (ht 42 (by decide)).trans (show _ = (.bool false : Value) from rfl); clear ht ho; simp only [execOp, e39, e42]; go_simp; try rfl)
                    · (refine OpH.rd rfl rfl (fun ρ us w6 ho ht hc hl hsrc hW => ?_); have e43 := (ht 43 (by decide)).trans (show _ = (.bool false : Value) from rfl); clear ht ho; simp only [execOp, e43]; go_simp; try rfl)
                    · (refine OpH.rdg rfl 25 44 false rfl rfl (by decide) (fun _ _ _ => rfl) (fun ρ us w6 ho ht hc hl hsrc hW => ?_); have e7 := (ho 7 rfl).trans (show _ = (.pointer (some ⟨g7, 0, none⟩) : Value) from rfl); clear ht ho; simp only [execOp, e7]; go_simp; try rfl)
                    · (refine OpH.rdg rfl 25 44 false rfl rfl (by decide) (fun _ _ _ => rfl) (fun ρ us w6 ho ht hc hl hsrc hW => ?_); have e45 := (ht 45 (by decide)).trans (show _ = (.pointer (some ⟨g7, 1, none⟩) : Value) from rfl); have r7 := ROW7.out w6 hW.1; have z0 := cell_of_row _ _ 0 _ _ _ r7; have z1 := cell_of_row _ _ 1 _ _ _ r7; have z2 := cell_of_row _ _ 2 _ _ _ r7; have z3 := cell_of_row _ _ 3 _ _ _ r7; clear r7; clear ht ho; simp only [execOp, e45]; go_simp; try rfl)
                    · (refine OpH.rdg rfl 25 44 false rfl rfl (by decide) (fun _ _ _ => rfl) (fun ρ us w6 ho ht hc hl hsrc hW => ?_); have e46 := (ht 46 (by decide)).trans (show _ = (.int .i64 len : Value) from rfl); clear ht ho; simp only [execOp, e46]; go_simp; exact congrArg Value.bool (decide_eq_false (by omega)))
                    · (refine OpH.rd rfl rfl (fun ρ us w6 ho ht hc hl hsrc hW => ?_); have e44 := (ht 44 (by decide)).trans (show _ = (.bool false : Value) from rfl); have e47 := (ht 47 (by decide)).trans (show _ = (.bool false : Value) from rfl); clear ht ho; simp only [execOp, e44, e47]; go_simp; try rfl)
                    · (refine OpH.rd rfl rfl (fun ρ us w6 ho ht hc hl hsrc hW => ?_); have e48 := (ht 48 (by decide)).trans (show _ = (.bool false : Value) from rfl); clear ht ho; simp only [execOp, e48]; go_simp; try rfl)
                    · (refine OpH.rdg rfl 30 49 false rfl rfl (by decide) (fun _ _ _ => rfl) (fun ρ us w6 ho ht hc hl hsrc hW => ?_); have e7 := (ho 7 rfl).trans (show _ = (.pointer (some ⟨g7, 0, none⟩) : Value) from rfl); clear ht ho; simp only [execOp, e7]; go_simp; try rfl)
                    · (refine OpH.rdg rfl 30 49 false rfl rfl (by decide) (fun _ _ _ => rfl) (fun ρ us w6 ho ht hc hl hsrc hW => ?_); have e50 := (ht 50 (by decide)).trans (show _ = (.pointer (some ⟨g7, 3, none⟩) : Value) from rfl); have r7 := ROW7.out w6 hW.1; have z0 := cell_of_row _ _ 0 _ _ _ r7; have z1 := cell_of_row _ _ 1 _ _ _ r7; have z2 := cell_of_row _ _ 2 _ _ _ r7; have z3 := cell_of_row _ _ 3 _ _ _ r7; clear r7; clear ht ho; simp only [execOp, e50]; go_simp; try rfl)
                    · (refine OpH.rdg rfl 30 49 false rfl rfl (by decide) (fun _ _ _ => rfl) (fun ρ us w6 ho ht hc hl hsrc hW => ?_); have e51 := (ht 51 (by decide)).trans (show _ = (.slice A3 n3 c3 : Value) from rfl); clear ht ho; simp only [execOp]; go_simp; try rfl)
                    · (refine OpH.rdg rfl 30 49 false rfl rfl (by decide) (fun _ _ _ => rfl) (fun ρ us w6 ho ht hc hl hsrc hW => ?_); have e2 := (ho 2 rfl).trans (show _ = (.pointer (some ⟨w.heap.size, 0, none⟩) : Value) from rfl); have rr := HROW.out w6 (HB4.out.trans (hW.1.mono hm4)); have z0 := cell_of_row _ _ 0 _ _ _ rr.1; have z1 := cell_of_row _ _ 1 _ _ _ rr.1; have z2 := cell_of_row _ _ 2 _ _ _ rr.1; have x0 := cell_of_row _ _ 0 _ _ _ rr.2; have x1 := cell_of_row _ _ 1 _ _ _ rr.2; have x2 := cell_of_row _ _ 2 _ _ _ rr.2; have x3 := cell_of_row _ _ 3 _ _ _ rr.2; clear rr; clear ht ho; simp only [execOp, e2]; go_simp; try rfl)
                    · (refine OpH.rdg rfl 30 49 false rfl rfl (by decide) (fun _ _ _ => rfl) (fun ρ us w6 ho ht hc hl hsrc hW => ?_); have e7 := (ho 7 rfl).trans (show _ = (.pointer (some ⟨g7, 0, none⟩) : Value) from rfl); clear ht ho; simp only [execOp, e7]; go_simp; try rfl)
                    · (refine OpH.rdg rfl 30 49 false rfl rfl (by decide) (fun _ _ _ => rfl) (fun ρ us w6 ho ht hc hl hsrc hW => ?_); have e54 := (ht 54 (by decide)).trans (show _ = (.pointer (some ⟨g7, 1, none⟩) : Value) from rfl); have r7 := ROW7.out w6 hW.1; have z0 := cell_of_row _ _ 0 _ _ _ r7; have z1 := cell_of_row _ _ 1 _ _ _ r7; have z2 := cell_of_row _ _ 2 _ _ _ r7; have z3 := cell_of_row _ _ 3 _ _ _ r7; clear r7; clear ht ho; simp only [execOp, e54]; go_simp; try rfl)
                    · refine OpH.wr rfl (fun Z us w6 ho ht hni hlim hreq hW K hK => ?_)
                      have e53 := (ht 53 (by decide)).trans (show _ = (.agg #[.int .i64 s.K, .int .i64 s.M, .int .i64 s.size] : Value) from rfl)
                      have e55 := (ht 55 (by decide)).trans (show _ = (.int .i64 len : Value) from rfl)
                      have hcl := HMA.out w6 len (by omega) (by omega)
                      rw [HMN.out] at hcl
                      have eg := (ht 49 (by decide)).trans (show _ = (.bool false : Value) from rfl)
                      refine step_callw (GuardOk.wanted (.at_ (j := 30) (t := 49) (b := false) rfl rfl eg)) 52 #[.tmp 53, .tmp 55] #[23, 3] rfl Try.func52 (by kernel_rfl) (by kernel_rfl) #[.agg #[.int .i64 s.K, .int .i64 s.M, .int .i64 s.size], .int .i64 len] (by simp [e53, e55]; try rfl) hcl ?_
                      rintro e w7 ⟨rfl, hb7⟩
                      exact ⟨_, rfl, hK _ _ (hW.snoc hb7 (fun j v h => h) (⟨fun _ => rfl, fun h => absurd h (by decide)⟩))⟩
                    · (refine OpH.rdg rfl 30 49 false rfl rfl (by decide) (fun _ _ _ => rfl) (fun ρ us w6 ho ht hc hl hsrc hW => ?_); have e52 := (ht 52 (by decide)).trans (show _ = (.int .i64 (n3 : Int) : Value) from rfl); have e56 := (ht 56 (by decide)).trans (show _ = ((us.lookup 37).getD undef : Value) from rfl); rw [(hW.at_ (hsrc 37 (by exact (List.mem_singleton.2 rfl : (37 : Nat) ∈ [37])))).1 rfl] at e56; clear ht ho; simp only [execOp, e52, e56]; go_simp; try rfl)
                    · (refine OpH.rd rfl rfl (fun ρ us w6 ho ht hc hl hsrc hW => ?_); have e49 := (ht 49 (by decide)).trans (show _ = (.bool false : Value) from rfl); have e57 := (ht 57 (by decide)).trans (show _ = (.bool true : Value) from rfl); clear ht ho; simp only [execOp, e49, e57]; go_simp; try rfl)
                    · (refine OpH.rd rfl rfl (fun ρ us w6 ho ht hc hl hsrc hW => ?_); have e58 := (ht 58 (by decide)).trans (show _ = (.bool true : Value) from rfl); clear ht ho; simp only [execOp, e58]; go_simp; try rfl)
                    · (exact OpH.rdn rfl 40 59 false rfl rfl (by decide) (fun _ _ _ => rfl) (fun _ => rfl))
                    · (exact OpH.rdn rfl 40 59 false rfl rfl (by decide) (fun _ _ _ => rfl) (fun _ => rfl))
                    · (exact OpH.rdn rfl 40 59 false rfl rfl (by decide) (fun _ _ _ => rfl) (fun _ => rfl))
                    · (exact OpH.rdn rfl 40 59 false rfl rfl (by decide) (fun _ _ _ => rfl) (fun _ => rfl))
                    · (exact OpH.rdn rfl 40 59 false rfl rfl (by decide) (fun _ _ _ => rfl) (fun _ => rfl))
                    · (refine OpH.rd rfl rfl (fun ρ us w6 ho ht hc hl hsrc hW => ?_); have e59 := (ht 59 (by decide)).trans (show _ = (.bool true : Value) from rfl); have e64 := (ht 64 (by decide)).trans (show _ = (undef : Value) from rfl); clear ht ho; simp only [execOp, e59, e64]; go_simp; try rfl)
                    -- TSAF
                    · intro us w9 hmem hW
                      simp only [putAll, List.map_cons, List.map_nil, List.foldl_cons, List.foldl_nil, Act.put, List.setIfInBounds_toArray, List.set_cons_succ, List.set_cons_zero]
                      generalize hsv : slotAt _ _ us = sv
                      have hq : sv 65 = (.bool true : Value) := by rw [← hsv]; rfl
                      rw [hq]
                      have HB9 := Lib.hid hW.1
                      clear hsv hq hmem hW
                      go_wp2
                      go_meet
                      case rel => exact ⟨by rw [HAX.out]; rfl, HB9⟩
        · have hd' : ((dg.size : Int) != 32) = true := by simp [hd]
          have HAX : Hid (thingAt s l xs k = false) := Lib.hid (by rw [HAT.out, decide_eq_false (by omega)]; rfl)
          clear HAT hd hp2
          go_wp2_with fail
          refine region_free (by kernel_rfl) (by kernel_rfl) 84 rfl [19, 20, 21, 22, 23, 24, 25, 26, 27, 28, 29, 30, 31, 32, 33, 34, 35, 36, 37, 38, 39, 40, 41, 42, 43, 44, 45, 46, 47, 48, 49, 50, 51, 52, 53, 54, 55, 56, 57, 58, 59, 60, 61, 62, 63, 64, 65] [] []
            [(19, [], fun _ => .pointer (some ⟨g7, 0, none⟩)), (20, [], fun _ => .string dg), (21, [], fun _ => .int .i64 (dg.size : Int)), (22, [], fun _ => .bool true), (23, [], fun _ => .bool true), (24, [], fun _ => undef), (25, [], fun _ => undef), (26, [], fun _ => undef), (27, [], fun _ => undef), (28, [], fun _ => undef), (29, [], fun _ => undef), (30, [], fun _ => undef), (31, [], fun _ => undef), (32, [], fun _ => undef), (33, [], fun _ => undef), (34, [], fun _ => undef), (35, [], fun _ => undef), (36, [], fun _ => undef), (37, [], fun _ => undef), (38, [], fun _ => .bool true), (39, [], fun _ => .bool true), (40, [], fun _ => undef), (41, [], fun _ => undef), (42, [], fun _ => undef), (43, [], fun _ => .bool true), (44, [], fun _ => .bool true), (45, [], fun _ => undef), (46, [], fun _ => undef), (47, [], fun _ => undef), (48, [], fun _ => .bool true), (49, [], fun _ => .bool true), (50, [], fun _ => undef), (51, [], fun _ => undef), (52, [], fun _ => undef), (53, [], fun _ => undef), (54, [], fun _ => undef), (55, [], fun _ => undef), (56, [], fun _ => undef), (57, [], fun _ => undef), (58, [], fun _ => .bool true), (59, [], fun _ => .bool true), (60, [], fun _ => undef), (61, [], fun _ => undef), (62, [], fun _ => undef), (63, [], fun _ => undef), (64, [], fun _ => undef), (65, [], fun _ => .bool true)]
            [] [] [[], [19], [20], [21], [22], [23], [24, 23], [25, 23], [26], [27, 26], [26], [29, 26], [26], [31, 26], [30, 32, 26], [33, 26], [34, 26], [28, 35, 26], [26, 36, 23], [23, 37], [38], [39], [40, 39], [41, 39], [39, 42], [43], [44], [45, 44], [46, 44], [44, 47], [48], [49], [50, 49], [51, 49], [49], [49], [54, 49], [53, 55, 49], [52, 56, 49], [49, 57], [58], [59], [59], [59], [60, 61, 62, 59], [63, 59], [59, 64]]
            (WdB w4 (fun _ _ _ => True)) (by kernel_rfl) .init ⟨?_, ?_, ?_, ?_, ?_, ?_, ?_, ?_, ?_, ?_, ?_, ?_, ?_, ?_, ?_, ?_, ?_, ?_, ?_, ?_, ?_, ?_, ?_, ?_, ?_, ?_, ?_, ?_, ?_, ?_, ?_, ?_, ?_, ?_, ?_, ?_, ?_, ?_, ?_, ?_, ?_, ?_, ?_, ?_, ?_, ?_, ?_, trivial⟩ ?_
          -- FAST47 cdot
          · (refine OpH.rd rfl rfl (fun ρ us w6 ho ht hc hl hsrc hW => ?_); have e7 := (ho 7 rfl).trans (show _ = (.pointer (some ⟨g7, 0, none⟩) : Value) from rfl); clear ht ho; simp only [execOp, e7]; go_simp; try rfl)
          · (refine OpH.rd rfl rfl (fun ρ us w6 ho ht hc hl hsrc hW => ?_); have e19 := (ht 19 (by decide)).trans (show _ = (.pointer (some ⟨g7, 0, none⟩) : Value) from rfl); have r7 := ROW7.out w6 hW.1; have z0 := cell_of_row _ _ 0 _ _ _ r7; have z1 := cell_of_row _ _ 1 _ _ _ r7; have z2 := cell_of_row _ _ 2 _ _ _ r7; have z3 := cell_of_row _ _ 3 _ _ _ r7; clear r7; clear ht ho; simp only [execOp, e19]; go_simp; try rfl)
          · (refine OpH.rd rfl rfl (fun ρ us w6 ho ht hc hl hsrc hW => ?_); have e20 := (ht 20 (by decide)).trans (show _ = (.string dg : Value) from rfl); clear ht ho; simp only [execOp]; go_simp; try rfl)
          · (refine OpH.rd rfl rfl (fun ρ us w6 ho ht hc hl hsrc hW => ?_); have e21 := (ht 21 (by decide)).trans (show _ = (.int .i64 (dg.size : Int) : Value) from rfl); clear ht ho; simp only [execOp, e21]; go_simp; try rfl)
          · (refine OpH.rd rfl rfl (fun ρ us w6 ho ht hc hl hsrc hW => ?_); have e22 := (ht 22 (by decide)).trans (show _ = (.bool true : Value) from rfl); clear ht ho; simp only [execOp, e22]; go_simp; try rfl)
          · (exact OpH.rdn rfl 4 23 false rfl rfl (by decide) (fun _ _ _ => rfl) (fun _ => rfl))
          · (exact OpH.rdn rfl 4 23 false rfl rfl (by decide) (fun _ _ _ => rfl) (fun _ => rfl))
          · (exact OpH.rdn rfl 4 23 false rfl rfl (by decide) (fun _ _ _ => rfl) (fun _ => rfl))
          · (exact OpH.rdu rfl 7 26 true rfl rfl (by decide) (fun _ _ _ => rfl) (fun _ => rfl))
          · (exact OpH.rdu rfl 7 26 true rfl rfl (by decide) (fun _ _ _ => rfl) (fun _ => rfl))
          · (exact OpH.rdu rfl 7 26 true rfl rfl (by decide) (fun _ _ _ => rfl) (fun _ => rfl))
          · (exact OpH.rdu rfl 7 26 true rfl rfl (by decide) (fun _ _ _ => rfl) (fun _ => rfl))
          · (exact OpH.rdu rfl 7 26 true rfl rfl (by decide) (fun _ _ _ => rfl) (fun _ => rfl))
          · (exact OpH.rdu rfl 7 26 true rfl rfl (by decide) (fun _ _ _ => rfl) (fun _ => rfl))
          · (exact OpH.rdu rfl 7 26 true rfl rfl (by decide) (fun _ _ _ => rfl) (fun _ => rfl))
          · (exact OpH.rdu rfl 7 26 true rfl rfl (by decide) (fun _ _ _ => rfl) (fun _ => rfl))
          · (exact OpH.rdu rfl 7 26 true rfl rfl (by decide) (fun _ _ _ => rfl) (fun _ => rfl))
          · (exact OpH.rdu rfl 7 26 true rfl rfl (by decide) (fun _ _ _ => rfl) (fun _ => rfl))
          · (exact OpH.rdn rfl 4 23 false rfl rfl (by decide) (fun _ _ _ => rfl) (fun _ => rfl))
          · (refine OpH.rd rfl rfl (fun ρ us w6 ho ht hc hl hsrc hW => ?_); have e23 := (ht 23 (by decide)).trans (show _ = (.bool true : Value) from rfl); have e37 := (ht 37 (by decide)).trans (show _ = (undef : Value) from rfl); clear ht ho; simp only [execOp, e23, e37]; go_simp; try rfl)
          · (refine OpH.rd rfl rfl (fun ρ us w6 ho ht hc hl hsrc hW => ?_); have e38 := (ht 38 (by decide)).trans (show _ = (.bool true : Value) from rfl); clear ht ho; simp only [execOp, e38]; go_simp; try rfl)
          · (exact OpH.rdn rfl 20 39 false rfl rfl (by decide) (fun _ _ _ => rfl) (fun _ => rfl))
          · (exact OpH.rdn rfl 20 39 false rfl rfl (by decide) (fun _ _ _ => rfl) (fun _ => rfl))
          · (exact OpH.rdn rfl 20 39 false rfl rfl (by decide) (fun _ _ _ => rfl) (fun _ => rfl))
          · (refine OpH.rd rfl rfl (fun ρ us w6 ho ht hc hl hsrc hW => ?_); have e39 := (ht 39 (by decide)).trans (show _ = (.bool true : Value) from rfl); have e42 := (ht 42 (by decide)).trans (show _ = (undef : Value) from rfl); clear ht ho; simp only [execOp, e39, e42]; go_simp; try rfl)
          · (refine OpH.rd rfl rfl (fun ρ us w6 ho ht hc hl hsrc hW => ?_); have e43 := (ht 43 (by decide)).trans (show _ = (.bool true : Value) from rfl); clear ht ho; simp only [execOp, e43]; go_simp; try rfl)
          · (exact OpH.rdn rfl 25 44 false rfl rfl (by decide) (fun _ _ _ => rfl) (fun _ => rfl))
          · (exact OpH.rdn rfl 25 44 false rfl rfl (by decide) (fun _ _ _ => rfl) (fun _ => rfl))
          · (exact OpH.rdn rfl 25 44 false rfl rfl (by decide) (fun _ _ _ => rfl) (fun _ => rfl))
          · (refine OpH.rd rfl rfl (fun ρ us w6 ho ht hc hl hsrc hW => ?_); have e44 := (ht 44 (by decide)).trans (show _ = (.bool true : Value) from rfl); have e47 := (ht 47 (by decide)).trans (show _ = (undef : Value) from rfl); clear ht ho; simp only [execOp, e44, e47]; go_simp; try rfl)
          · (refine OpH.rd rfl rfl (fun ρ us w6 ho ht hc hl hsrc hW => ?_); have e48 := (ht 48 (by decide)).trans (show _ = (.bool true : Value) from rfl); clear ht ho; simp only [execOp, e48]; go_simp; try rfl)
          · (exact OpH.rdn rfl 30 49 false rfl rfl (by decide) (fun _ _ _ => rfl) (fun _ => rfl))
          · (exact OpH.rdn rfl 30 49 false rfl rfl (by decide) (fun _ _ _ => rfl) (fun _ => rfl))
          · (exact OpH.rdn rfl 30 49 false rfl rfl (by decide) (fun _ _ _ => rfl) (fun _ => rfl))
          · (exact OpH.rdn rfl 30 49 false rfl rfl (by decide) (fun _ _ _ => rfl) (fun _ => rfl))
          · (exact OpH.rdn rfl 30 49 false rfl rfl (by decide) (fun _ _ _ => rfl) (fun _ => rfl))
          · (exact OpH.rdn rfl 30 49 false rfl rfl (by decide) (fun _ _ _ => rfl) (fun _ => rfl))
          · (exact OpH.rdn rfl 30 49 false rfl rfl (by decide) (fun _ _ _ => rfl) (fun _ => rfl))
          · (exact OpH.rdn rfl 30 49 false rfl rfl (by decide) (fun _ _ _ => rfl) (fun _ => rfl))
          · (refine OpH.rd rfl rfl (fun ρ us w6 ho ht hc hl hsrc hW => ?_); have e49 := (ht 49 (by decide)).trans (show _ = (.bool true : Value) from rfl); have e57 := (ht 57 (by decide)).trans (show _ = (undef : Value) from rfl); clear ht ho; simp only [execOp, e49, e57]; go_simp; try rfl)
          · (refine OpH.rd rfl rfl (fun ρ us w6 ho ht hc hl hsrc hW => ?_); have e58 := (ht 58 (by decide)).trans (show _ = (.bool true : Value) from rfl); clear ht ho; simp only [execOp, e58]; go_simp; try rfl)
          · (exact OpH.rdn rfl 40 59 false rfl rfl (by decide) (fun _ _ _ => rfl) (fun _ => rfl))
          · (exact OpH.rdn rfl 40 59 false rfl rfl (by decide) (fun _ _ _ => rfl) (fun _ => rfl))
          · (exact OpH.rdn rfl 40 59 false rfl rfl (by decide) (fun _ _ _ => rfl) (fun _ => rfl))
          · (exact OpH.rdn rfl 40 59 false rfl rfl (by decide) (fun _ _ _ => rfl) (fun _ => rfl))
          · (exact OpH.rdn rfl 40 59 false rfl rfl (by decide) (fun _ _ _ => rfl) (fun _ => rfl))
          · (refine OpH.rd rfl rfl (fun ρ us w6 ho ht hc hl hsrc hW => ?_); have e59 := (ht 59 (by decide)).trans (show _ = (.bool true : Value) from rfl); have e64 := (ht 64 (by decide)).trans (show _ = (undef : Value) from rfl); clear ht ho; simp only [execOp, e59, e64]; go_simp; try rfl)
          -- TSAF
          · intro us w9 hmem hW
            simp only [putAll, List.map_cons, List.map_nil, List.foldl_cons, List.foldl_nil, Act.put, List.setIfInBounds_toArray, List.set_cons_succ, List.set_cons_zero]
            generalize hsv : slotAt _ _ us = sv
            have hq : sv 65 = (.bool true : Value) := by rw [← hsv]; rfl
            rw [hq]
            have HB9 := Lib.hid hW.1
            clear hsv hq hmem hW
            go_wp2
            go_meet
            case rel => exact ⟨by rw [HAX.out]; rfl, HB9⟩
      case rest =>
        rename World => wc
        obtain ⟨rfl, HBc⟩ := hcut
        have hmc : m ≤ wc.heap.size := by have := HBc.out.size; omega
        have HB5 := Lib.hid (HB4.out.trans (HBc.out.mono hm4))
        have HST5 := Lib.hid (HST4.out.all HBc.out)
        have HL35 := Lib.hid (HL34.out.all HBc.out)
        have HROW7 := Lib.hid (ROW7.out wc HBc.out)
        generalize htk : thingAt s l xs k = tk at *
        have HTK := Lib.hid htk; clear htk HST4 HL34 ROW7 HB4 HBc
        cases tk with
        | false =>
          have HE : Hid (R = false) := Lib.hid (by rw [HR.out, thingsOk_bad (k := k) (by have := HL1.out; omega) HTK.out])
          go_wp2
          go_ret
          exact ⟨by rw [HE.out]; rfl, HBW.out _ HB5.out⟩
        | true =>
          have z3 := cell_of_row _ _ 3 _ _ _ HROW7.out
          have hcap3 : n3 ≤ 9223372036854775807 := Nat.le_trans HL35.out.le HL35.out.cap
          have hlen : (namedTo xs k).length + ys.length ≤ 1000000 := by
            obtain ⟨r, hr⟩ := namedTo_le (xs := xs) (k := k + 1) (by have := HL1.out; omega)
            have h2 := hfew
            rw [hr, namedTo_succ (by have := HL1.out; omega), ← HYS.out, List.length_append, List.length_append] at h2
            omega
          have hml : 1000000 < maxLen := by decide
          go_wp2_with fail
          clear z3
          go_loopw [69] (fun iv wr => ∃ j : Nat, j ≤ n3 ∧ iv = .int .i64 j ∧ Hid (Below m w2 wr) ∧ Hid (SetAt Try.prog 3 4 wr m (namedTo xs k ++ ys.take j).length (keysI (namedTo xs k ++ ys.take j))) ∧ Hid (namedTo xs k ++ ys.take j).Nodup) (fun iv _ => n3 - (intOf iv).toNat)
          case atStart => exact ⟨0, Nat.zero_le _, rfl, HB5, by simpa using HST5, by simpa using HND⟩
          case round =>
            rename World => wj
            clear HB5 HST5 HND HL35 HROW7
            obtain ⟨j, hj, rfl, HBj, HSj, HNj⟩ := hrel
            by_cases hjl : j < n3
            · obtain ⟨b3, o3, rfl, _, hb3, i64d, hc3, _⟩ := (HLW.out wj HBj.out).int_at hjl
              have hjy : j < ys.length := by have := HLN.out; omega
              have hyj : ys[j]? = some (ys.getD j 0) := by rw [List.getD_eq_getElem?_getD, List.getElem?_eq_getElem hjy]; rfl
              have htk2 : ys.take (j + 1) = ys.take j ++ [ys.getD j 0] := by rw [List.take_add_one, hyj]; rfl
              have htl : (ys.take j).length ≤ ys.length := by rw [List.length_take]; omega
              have hlt2 : (namedTo xs k ++ ys.take j).length < maxLen := by rw [List.length_append]; omega
              have HTW := Lib.hid (fun (hm : ys.getD j 0 ∈ namedTo xs k ++ ys.take j) => thingsOk_twice (s := s) (l := l) (xs := xs) (k := k) (j := j) (by have := HL1.out; omega) (by rw [← HYS.out]; exact hjy) (by rw [← HYS.out]; exact hm))
              generalize ys.getD j 0 = id at *
              have hwf : (Lit.int .i64 id).wf = true := by
                unfold I64 at i64d
                simp [Lit.wf, IntKind.min, IntKind.max, IntKind.signed, IntKind.bits]; omega
              have hkey := Maps.keyOf_int_mk (P := Try.prog) Try.underlying3 hwf
              have HTK2 := Lib.hid htk2; clear htk2 hyj
              go_wp2_with (at_lookup; refine wpList_look_set _ rfl _ _ 101 rfl (Maps.int_keyed Try.underlying3) Try.underlying101 Try.underlying4 (Try.zeroValue4 _) m _ _ rfl HSj.out _ (.int .i64 id) rfl hkey ?_)
              refine ⟨?_, ?_⟩
              · intro hx
                rw [mem_keysI] at hx
                have HN2 : Hid (namedTo xs k ++ ys.take (j + 1)).Nodup := Lib.hid (by
                  rw [HTK2.out, ← List.append_assoc]
                  exact List.nodup_append.2 ⟨HNj.out, by simp, fun a ha b hb e => by
                    rw [List.mem_singleton.1 hb] at e
                    subst e
                    exact hx ha⟩)
                clear hx
                go_wp2_with (at_mapUpdate; refine wpList_put_set _ rfl _ _ _ 101 rfl (Maps.int_keyed Try.underlying3) Try.underlying101 Try.underlying4 m _ _ rfl HSj.out hlt2 _ (.int .i64 id) rfl rfl hkey ?_)
                intro w6 hset6 hg6
                have HB6 := Lib.hid (HBj.out.grown hg6 (by have := HBj.out.size; omega) (fun r hr => by injection hr with hr; omega))
                have HS6 : Hid (SetAt Try.prog 3 4 w6 m (namedTo xs k ++ ys.take (j + 1)).length (keysI (namedTo xs k ++ ys.take (j + 1)))) := Lib.hid (by
                  rw [HTK2.out, ← List.append_assoc, List.length_append (bs := [id])]
                  unfold keysI
                  rw [List.map_append (l₂ := [id]), List.length_append, List.length_take]
                  exact hset6)
                clear hset6 hg6
                go_wp2
                exact ⟨⟨j + 1, by omega, by go_num, HB6, HS6, HN2⟩, by simp [intOf]; omega⟩
              · intro hx
                rw [mem_keysI] at hx
                have HE : Hid (R = false) := Lib.hid (by rw [HR.out, HTW.out hx])
                clear hx
                go_wp2
                go_ret
                exact ⟨by rw [HE.out]; rfl, HBW.out _ HBj.out⟩
            · obtain rfl : j = n3 := by omega
              have HA2 := Lib.hid (fun j' (hj' : j' < k + 1) => (show thingAt s l xs j' = true from by
                by_cases e : j' = k
                · rw [e]; exact HTK.out
                · exact HA.out j' (by omega)))
              have HNX : Hid (namedTo xs (k + 1) = namedTo xs k ++ ys.take j) := Lib.hid (by rw [namedTo_succ (by have := HL1.out; omega), ← HYS.out, List.take_of_length_le (by have := HLN.out; omega)])
              go_wp2
              exact ⟨⟨k + 1, by omega, by go_num, HBj, by rw [HNX.out]; exact HSj, HA2, by rw [HNX.out]; exact HNj⟩, by simp [intOf]; omega⟩
    · obtain rfl : k = n1 := by omega
      obtain ⟨_, r1⟩ := HROW.out wo HB.out
      have q1 := cell_of_row _ _ 1 _ _ _ r1
      have HE : Hid (R = decide (k ≤ 60)) := Lib.hid (by rw [HR.out, thingsOk_all (fun j hj => HA.out j (by have := HL1.out; omega)) (by rw [HL1.out]; exact HND.out), HL1.out])
      clear r1
      go_wp2
      go_ret
      exact ⟨by rw [HE.out]; congr 2; simp; omega, HBW.out _ HB.out⟩
end Go.Proofs.Ytipecejghioicaa
