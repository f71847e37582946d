/- silolaw16.Heavy, silolaw17.Heavy: what is played; siloref0.CopyBook. Printed by gen_h3.py. -/
import Derived.Test.YtipecejghioicaaH2r
namespace Go.Proofs.Ytipecejghioicaa
open Go.RowKit Go.Silo

/-- How many numbers and slots so many records bear. -/
def recW (l : List Record) : Nat := (l.map (fun r => r.list.length + r.slots.length)).sum
theorem recW_snoc {l : List Record} {k : Nat} (h : k < l.length) : recW (l.take (k + 1)) = recW (l.take k) + ((l.getD k default).list.length + (l.getD k default).slots.length) := by
  unfold recW
  rw [take_snoc_getD (d := default) h, List.map_append, List.sum_append]
  simp
def RetRW (l : List Record) (w : World) (e : Ending) (w' : World) : Prop :=
  ∃ v : Int, e = .returned (.int .i64 v) ∧ Below w.heap.size w w' ∧ (v < 1048576 → (l.length : Int) + recW l ≤ v)
set_option maxRecDepth 100000 in
set_option maxHeartbeats 4000000 in
theorem RecordsWeight_c {tg tg0 : Bool} {S : Nat → Prop} {w : World} {A : Option Addr} {n c : Nat} {l : List Record} (hB : l.length * 96 ≤ reachBytes ∧ ∀ y ∈ l, RecordB y) (h : Sl tg 54 (recordE tg0) w S A n c l) :
    Calls Try.prog 13 #[.slice A n c] w (RetRW l w) := by
  have hr : reachBytes = 140737488351232 := by decide
  obtain ⟨q1, q2⟩ := hB
  rw [hr] at q1
  have HL := Lib.hid h.len
  have hn : n ≤ 140737488351232 := by have := HL.out; omega
  have HB := Lib.hid (fun (y : Record) (hy : y ∈ l) => (by have h := q2 y hy; unfold RecordB StrB at h; omega : y.name.size ≤ 140737488351232 ∧ y.digest.size ≤ 140737488351232 ∧ y.list.length ≤ 140737488351232 ∧ y.slots.length ≤ 140737488351232))
  clear q1 q2 hr
  go_enter Try.func13, Try.ntmps13
  go_wp2_with fail
  go_loopw [3, 4] (fun t i wr => ∃ k : Nat, ∃ v : Int, k ≤ n ∧ i = .int .i64 k ∧ t = .int .i64 v ∧ 0 ≤ v ∧ v ≤ 600000000000000 ∧ Hid (v < 1048576 → (n : Int) + recW (l.take k) ≤ v) ∧ Hid (Below w.heap.size w wr)) (fun _ i _ => n - (intOf i).toNat)
  case atStart => exact ⟨0, _, Nat.zero_le _, rfl, rfl, by omega, by omega, Lib.hid (fun h => by simp [recW]), Lib.hid (Below.refl _ _)⟩
  case round =>
    obtain ⟨k, v, hk, rfl, rfl, hva, hvb, HV, HBW⟩ := hrel
    by_cases hlt : k < n
    · by_cases hv : v < 1048576
      · obtain ⟨b, off, A4, n4, c4, A5, n5, c5, eA, _, hbl, j0, j1, j2, j3, hp4, hp5, q0, q1, q2, q3, q4, q5, _⟩ := (h.all HBW.out).record_at hlt
        subst eA
        have hkl : k < l.length := by have := HL.out; omega
        obtain ⟨hb1, hb2, hb3, hb4⟩ := HB.out _ (getD_mem (d := default) hkl)
        have hn4 : n4 ≤ 140737488351232 := by have := hp4.len; omega
        have hn5 : n5 ≤ 140737488351232 := by have := hp5.len; omega
        have HVN : Hid (v + ((l.getD k default).name.size : Int) + ((l.getD k default).digest.size : Int) + n4 + n5 < 1048576 → (n : Int) + recW (l.take (k + 1)) ≤ v + ((l.getD k default).name.size : Int) + ((l.getD k default).digest.size : Int) + n4 + n5) := Lib.hid (fun _ => by
          have h1 := HV.out hv; have h4 := hp4.len; have h5 := hp5.len
          rw [recW_snoc hkl, h4, h5]; omega)
        generalize (l.getD k default).name = nm at *
        generalize (l.getD k default).digest = dg at *
        clear hp4 hp5 hb3 hb4 j0 j1 j2 j3 q0 q1
        go_wp2_with fail
        have hext := cell_ext wr
        refine region_ext (by kernel_rfl) (by kernel_rfl) ?_
        repeat (go_big_quiet_step (fail))
        refine wpQuiet_nil ?_
        rintro _ ⟨X, rfl⟩
        have HB3 := Lib.hid (HBW.out.trans ((below_ext wr X).mono HBW.out.size))
        clear hext q2 q3 q4 q5
        generalize wr.ext X = w3 at *
        go_wp2
        go_roundw
        case rel => exact ⟨k + 1, _, by omega, by go_num, rfl, by omega, by omega, HVN, HB3⟩
        case measure => simp [intOf]; omega
      · go_wp2
        go_ret
        exact ⟨v, rfl, HBW.out, fun h => absurd h (by omega)⟩
    · obtain rfl : n = k := by omega
      go_wp2
      go_ret
      exact ⟨v, rfl, HBW.out, fun h => by have h1 := HV.out h; rw [List.take_of_length_le (by have := HL.out; omega)] at h1; rw [HL.out]; exact h1⟩
/-- A script that is played. -/
structure Light16 (q : ScriptD) : Prop where
  bk : q.b.stripes.length + q.b.things.length + q.b.tags.length + (slotsTo q.b.stripes q.b.stripes.length).length + (namedTo q.b.things q.b.things.length).length ≤ 2500
  rc : q.l.length + recW q.l ≤ 2500
  lv : q.live.length ≤ 50
def RetHeavy16 (q : ScriptD) (w : World) (e : Ending) (w' : World) : Prop := ∃ v : Bool, e = .returned (.bool v) ∧ Below w.heap.size w w' ∧ (v = false → Light16 q)
theorem Light16.few {q : ScriptD} (h : Light16 q) : Few q.b := ⟨by have := h.bk; omega, by have := h.bk; omega, by have := h.bk; omega⟩
set_option maxRecDepth 100000 in
set_option maxHeartbeats 4000000 in
theorem Heavy16_c {tg : Bool} {S : Nat → Prop} {w : World} {A0 A1 A2 A3 A4 : Option Addr} {n0 c0 n1 c1 n2 c2 n3 c3 n4 c4 : Nat} {q : ScriptD} (hB : ScriptDB q) (hb : BookR w S tg tg tg tg A0 n0 c0 A1 n1 c1 A2 n2 c2 q.b) (hl : Sl tg 54 (recordE tg) w S A3 n3 c3 q.l) (hv : Sl tg 4 boolE w S A4 n4 c4 q.live) :
    Calls Try.prog 4 #[.agg #[.int .i64 q.s.K, .int .i64 q.s.M, .int .i64 q.s.size, .slice A0 n0 c0, .slice A1 n1 c1, .slice A2 n2 c2, .int .i64 q.b.next, .slice A3 n3 c3, .slice A4 n4 c4, .int .i64 q.n]] w (RetHeavy16 q w) := by
  have HBW := Lib.hid (fun W (hW : Below w.heap.size w W) => BookWeight_c (w := W) hB.1 (hb.all hW))
  have HRW := Lib.hid (fun W (hW : Below w.heap.size w W) => RecordsWeight_c (w := W) hB.2.1 (hl.all hW))
  have HLV := Lib.hid hv.len
  clear hB hb hl hv
  have hal : Below w.heap.size w (w.alloc (.cells #[.int .i64 q.s.K, .int .i64 q.s.M, .int .i64 q.s.size, .slice A0 n0 c0, .slice A1 n1 c1, .slice A2 n2 c2, .int .i64 q.b.next, .slice A3 n3 c3, .slice A4 n4 c4, .int .i64 q.n] 32)) := (by repeat' (first | (with_reducible exact Below.refl _ _) | (with_reducible refine Below.alloc ?_ ?_ _) | (with_reducible refine Below.drew ?_) | (with_reducible refine below_drewN ?_ _) | (with_reducible refine Below.setCell ?_ ?_ _) | (refine via ?_ (by with_reducible assumption) ?_) | (refine via ?_ (below_ext _ _) ?_) | go_size))
  have hr0 : (w.alloc (.cells #[.int .i64 q.s.K, .int .i64 q.s.M, .int .i64 q.s.size, .slice A0 n0 c0, .slice A1 n1 c1, .slice A2 n2 c2, .int .i64 q.b.next, .slice A3 n3 c3, .slice A4 n4 c4, .int .i64 q.n] 32)).heap[w.heap.size]? = some (.cells #[.int .i64 q.s.K, .int .i64 q.s.M, .int .i64 q.s.size, .slice A0 n0 c0, .slice A1 n1 c1, .slice A2 n2 c2, .int .i64 q.b.next, .slice A3 n3 c3, .slice A4 n4 c4, .int .i64 q.n] 32 (0, 0)) := by
    have := heap_alloc_new w (.cells #[.int .i64 q.s.K, .int .i64 q.s.M, .int .i64 q.s.size, .slice A0 n0 c0, .slice A1 n1 c1, .slice A2 n2 c2, .int .i64 q.b.next, .slice A3 n3 c3, .slice A4 n4 c4, .int .i64 q.n] 32)
    simpa only [World.size_alloc] using this
  have hz : w.heap.size < (w.alloc (.cells #[.int .i64 q.s.K, .int .i64 q.s.M, .int .i64 q.s.size, .slice A0 n0 c0, .slice A1 n1 c1, .slice A2 n2 c2, .int .i64 q.b.next, .slice A3 n3 c3, .slice A4 n4 c4, .int .i64 q.n] 32)).heap.size := by simp
  go_enter Try.func4, Try.ntmps4
  go_upto_region 1 with (fail)
  generalize (w.alloc (.cells #[.int .i64 q.s.K, .int .i64 q.s.M, .int .i64 q.s.size, .slice A0 n0 c0, .slice A1 n1 c1, .slice A2 n2 c2, .int .i64 q.b.next, .slice A3 n3 c3, .slice A4 n4 c4, .int .i64 q.n] 32)) = W0 at *
  have HAL := Lib.hid (fun V (hV : Below W0.heap.size W0 V) => hal.trans (hV.mono hal.size)); clear hal
  have ROW := Lib.hid (fun V (hV : Below W0.heap.size W0 V) => (show V.heap[w.heap.size]? = some (.cells #[.int .i64 q.s.K, .int .i64 q.s.M, .int .i64 q.s.size, .slice A0 n0 c0, .slice A1 n1 c1, .slice A2 n2 c2, .int .i64 q.b.next, .slice A3 n3 c3, .slice A4 n4 c4, .int .i64 q.n] 32 (0, 0)) from (hV.block _ (by omega)).trans hr0))
  clear hr0
  have r0 := ROW.out W0 (Below.refl _ _)
  have b03 := (cell_of_row _ _ 3 _ _ _ r0).trans (show _ = some (.slice _ n0 c0 : Value) from rfl)
  have b04 := (cell_of_row _ _ 4 _ _ _ r0).trans (show _ = some (.slice _ n1 c1 : Value) from rfl)
  have b05 := (cell_of_row _ _ 5 _ _ _ r0).trans (show _ = some (.slice _ n2 c2 : Value) from rfl)
  have b06 := (cell_of_row _ _ 6 _ _ _ r0).trans (show _ = some (.int .i64 q.b.next : Value) from rfl)
  clear r0
  go_wp2_with fail
  refine (HBW.out _ (HAL.out _ (Below.refl _ _))).mono ?_
  clear b03 b04 b05 b06
  rintro e w1 ⟨v1, rfl, hb1, hv1⟩
  have HB1 := Lib.hid hb1; clear hb1
  have HV1 := Lib.hid hv1; clear hv1
  by_cases g1 : 2500 < v1
  · go_wp2
    go_ret
    exact ⟨true, rfl, HAL.out _ HB1.out, fun h => by cases h⟩
  · have r0 := ROW.out w1 HB1.out
    have b07 := (cell_of_row _ _ 7 _ _ _ r0).trans (show _ = some (.slice _ n3 c3 : Value) from rfl)
    clear r0
    go_wp2_with fail
    refine (HRW.out _ (HAL.out _ HB1.out)).mono ?_
    clear b07
    rintro e w2 ⟨v2, rfl, hb2, hv2⟩
    have HB2 := Lib.hid (HB1.out.trans (hb2.mono HB1.out.size)); clear hb2
    have HV2 := Lib.hid hv2; clear hv2
    by_cases g2 : 2500 < v2
    · go_wp2
      go_ret
      exact ⟨true, rfl, HAL.out _ HB2.out, fun h => by cases h⟩
    · have r0 := ROW.out w2 HB2.out
      have b08 := (cell_of_row _ _ 8 _ _ _ r0).trans (show _ = some (.slice _ n4 c4 : Value) from rfl)
      clear r0
      by_cases g3 : 50 < n4
      · go_wp2
        go_ret
        exact ⟨_, rfl, HAL.out _ HB2.out, fun h => by simp at h; omega⟩
      · go_wp2
        go_ret
        exact ⟨_, rfl, HAL.out _ HB2.out, fun _ => ⟨by have := HV1.out (by omega); omega, by have := HV2.out (by omega); omega, by have := HLV.out; omega⟩⟩
end Go.Proofs.Ytipecejghioicaa
