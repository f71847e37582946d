/- silolaw0.BookWeight: how much a book is. Printed by gen_h2.py. -/
import Derived.Test.YtipecejghioicaaL5r
import Derived.Test.YtipecejghioicaaQ10r
import Derived.Test.YtipecejghioicaaB6r
import Derived.Deep.CutBlock
import Derived.Deep.Cut
namespace Go.Proofs.Ytipecejghioicaa
open Go.RowKit Go.Silo

/-- What a book weighs, if it is not too much. -/
def RetBW (b : Book) (w : World) (e : Ending) (w' : World) : Prop :=
  ∃ v : Int, e = .returned (.int .i64 v) ∧ Below w.heap.size w w' ∧ (v < 1048576 → (b.stripes.length : Int) + b.things.length + b.tags.length + (slotsTo b.stripes b.stripes.length).length + (namedTo b.things b.things.length).length ≤ v)
set_option maxRecDepth 100000 in
set_option maxHeartbeats 8000000 in
theorem BookWeight_i {tg tg0 tg1 tg2 : Bool} {S : Nat → Prop} {w : World} {A0 A1 A2 : Option Addr} {n0 c0 n1 c1 n2 c2 : Nat} {l : List Stripe} {xs : List Entry} {gs : List Tag} {nx : Int}
    (hB : BookB ⟨l, xs, gs, nx⟩) (h0 : Sl tg 69 (stripeE tg0) w S A0 n0 c0 l) (h1 : Sl tg 71 (entryE tg1) w S A1 n1 c1 xs) (h2 : Sl tg2 73 tagE w S A2 n2 c2 gs) :
    Calls Try.prog 12 #[.agg #[.slice A0 n0 c0, .slice A1 n1 c1, .slice A2 n2 c2, .int .i64 nx]] w (RetBW ⟨l, xs, gs, nx⟩ w) := by
  have hr : reachBytes = 140737488351232 := by decide
  obtain ⟨⟨q1, q2⟩, ⟨q3, q4⟩, ⟨q5, q6⟩⟩ := hB
  rw [hr] at q1 q3 q5
  simp only at q1 q2 q3 q4 q5 q6
  have HL0 := Lib.hid h0.len
  have HL1 := Lib.hid h1.len
  have HL2 := Lib.hid h2.len
  have hn0 : n0 ≤ 140737488351232 := by have := HL0.out; omega
  have hn1 : n1 ≤ 140737488351232 := by have := HL1.out; omega
  have hn2 : n2 ≤ 140737488351232 := by have := HL2.out; omega
  have HB0 := Lib.hid (fun (y : Stripe) (hy : y ∈ l) => (by have h := q2 y hy; unfold StripeB at h; omega : y.place.length ≤ 140737488351232))
  have HB1 := Lib.hid (fun (y : Entry) (hy : y ∈ xs) => (by have h := q4 y hy; unfold EntryB StrB at h; omega : y.digest.size ≤ 140737488351232 ∧ y.list.length ≤ 140737488351232))
  have HB2 := Lib.hid (fun (y : Tag) (hy : y ∈ gs) => (by have h := q6 y hy; unfold TagB StrB at h; omega : y.name.size ≤ 140737488351232 ∧ y.digest.size ≤ 140737488351232))
  clear q1 q2 q3 q4 q5 q6 hr
  have hal : Below w.heap.size w (w.alloc (.cells #[.slice A0 n0 c0, .slice A1 n1 c1, .slice A2 n2 c2, .int .i64 nx] 28)) := (by repeat' (first | (with_reducible exact Below.refl _ _) | (with_reducible refine Below.alloc ?_ ?_ _) | (with_reducible refine Below.drew ?_) | (with_reducible refine below_drewN ?_ _) | (with_reducible refine Below.setCell ?_ ?_ _) | (refine via ?_ (by with_reducible assumption) ?_) | (refine via ?_ (below_ext _ _) ?_) | go_size))
  have hr0 : (w.alloc (.cells #[.slice A0 n0 c0, .slice A1 n1 c1, .slice A2 n2 c2, .int .i64 nx] 28)).heap[w.heap.size]? = some (.cells #[.slice A0 n0 c0, .slice A1 n1 c1, .slice A2 n2 c2, .int .i64 nx] 28 (0, 0)) := by
    have := heap_alloc_new w (.cells #[.slice A0 n0 c0, .slice A1 n1 c1, .slice A2 n2 c2, .int .i64 nx] 28)
    simpa only [World.size_alloc] using this
  have hz : w.heap.size < (w.alloc (.cells #[.slice A0 n0 c0, .slice A1 n1 c1, .slice A2 n2 c2, .int .i64 nx] 28)).heap.size := by simp
  have HS := Lib.hid (fun W (hW : Below w.heap.size w W) => h0.all hW); clear h0
  have HT := Lib.hid (fun W (hW : Below w.heap.size w W) => h1.all hW); clear h1
  have HG := Lib.hid (fun W (hW : Below w.heap.size w W) => h2.all hW); clear h2
  go_enter Try.func12, Try.ntmps12
  go_upto_region 1 with (fail)
  generalize (w.alloc (.cells #[.slice A0 n0 c0, .slice A1 n1 c1, .slice A2 n2 c2, .int .i64 nx] 28)) = W0 at *
  have HAL := Lib.hid (fun V (hV : Below W0.heap.size W0 V) => hal.trans (hV.mono hal.size)); clear hal
  have ROW := Lib.hid (fun V (hV : Below W0.heap.size W0 V) => (show V.heap[w.heap.size]? = some (.cells #[.slice A0 n0 c0, .slice A1 n1 c1, .slice A2 n2 c2, .int .i64 nx] 28 (0, 0)) from (hV.block _ (by omega)).trans hr0))
  clear hr0
  have r0 := ROW.out W0 (Below.refl _ _)
  have b00 := (cell_of_row _ _ 0 _ _ _ r0).trans (show _ = some (.slice _ n0 c0 : Value) from rfl)
  have b01 := (cell_of_row _ _ 1 _ _ _ r0).trans (show _ = some (.slice _ n1 c1 : Value) from rfl)
  have b02 := (cell_of_row _ _ 2 _ _ _ r0).trans (show _ = some (.slice _ n2 c2 : Value) from rfl)
  clear r0
  obtain ⟨v0, hv0⟩ : ∃ v0 : Int, v0 = (n0 : Int) + n1 + n2 := ⟨_, rfl⟩
  have hv01 : 0 ≤ v0 := by omega
  have hv02 : v0 ≤ 500000000000000 := by omega
  have HV0 := Lib.hid hv0; clear hv0
  go_upto_region 2 with (fail)
  rw [← HV0.out]
  clear b00 b01 b02
  go_upto_block 0 with (fail)
  go_cut [3] from 5 (fun s3 V => ∃ v : Int, s3 = .int .i64 v ∧ 0 ≤ v ∧ v ≤ 500000000000000 ∧ Hid (v < 1048576 → v0 + (slotsTo l l.length).length ≤ v) ∧ Hid (Below W0.heap.size W0 V))
  case first =>
    go_wp2_with fail
    go_loopw [3, 4] (fun t i wr => ∃ k : Nat, ∃ v : Int, k ≤ n0 ∧ i = .int .i64 k ∧ t = .int .i64 v ∧ 0 ≤ v ∧ v ≤ 500000000000000 ∧ Hid (v0 + (slotsTo l k).length ≤ v) ∧ Hid (Below W0.heap.size W0 wr)) (fun _ i _ => n0 - (intOf i).toNat)
    case atStart => exact ⟨0, _, Nat.zero_le _, rfl, rfl, hv01, hv02, Lib.hid (by simp [slotsTo]), Lib.hid (Below.refl _ _)⟩
    case round =>
      obtain ⟨k, v, hk, rfl, rfl, hva, hvb, HV, HB⟩ := hrel
      have r0 := ROW.out wr HB.out
      have b00 := (cell_of_row _ _ 0 _ _ _ r0).trans (show _ = some (.slice _ n0 c0 : Value) from rfl)
      clear r0
      by_cases hlt : k < n0
      · by_cases hv : v < 1048576
        · obtain ⟨b, off, A3, n3, c3, eA, _, hbl, j1, j2, j3, hpl, q0, q1, q2, q3, _⟩ := (HS.out _ (HAL.out _ HB.out)).stripe_at hlt
          subst eA
          have hkl : k < l.length := by have := HL0.out; omega
          have hn3 : n3 ≤ 140737488351232 := by
            have := HB0.out _ (getD_mem (d := default) hkl)
            have := hpl.len; omega
          have HVN : Hid (v0 + (slotsTo l (k + 1)).length ≤ v + n3) := Lib.hid (by
            have h1 := HV.out; have h2 := hpl.len
            rw [slotsTo_succ hkl, List.length_append, h2]; omega)
          clear hpl q0 q1 q2 j1 j2 j3
          go_wp2
          exact ⟨⟨k + 1, _, by omega, by go_num, rfl, by omega, by omega, HVN, HB⟩, by simp [intOf]; omega⟩
        · go_wp2
          go_meet
          case rel => exact ⟨v, rfl, hva, hvb, Lib.hid (fun h => absurd h (by omega)), HB⟩
      · obtain rfl : n0 = k := by omega
        have HVE : Hid (v < 1048576 → v0 + (slotsTo l l.length).length ≤ v) := Lib.hid (fun _ => by rw [HL0.out]; exact HV.out)
        go_wp2
        go_meet
        case rel => exact ⟨v, rfl, hva, hvb, HVE, HB⟩
  case rest =>
    rename World => wc
    obtain ⟨va, rfl, hva0, hva1, HVA, HBA⟩ := hcut
    go_upto_region 6 with (fail)
    go_upto_block 2 with (fail)
    go_cut [3] from 6 (fun s3 V => ∃ v : Int, s3 = .int .i64 v ∧ 0 ≤ v ∧ v ≤ 500000000000000 ∧ Hid (v < 1048576 → v0 + (slotsTo l l.length).length + (namedTo xs xs.length).length ≤ v) ∧ Hid (Below W0.heap.size W0 V))
    case first =>
      go_wp2_with fail
      go_loopw [3, 5] (fun t i wr => ∃ k : Nat, ∃ v : Int, k ≤ n1 ∧ i = .int .i64 k ∧ t = .int .i64 v ∧ 0 ≤ v ∧ v ≤ 500000000000000 ∧ Hid (v < 1048576 → v0 + (slotsTo l l.length).length + (namedTo xs k).length ≤ v) ∧ Hid (Below W0.heap.size W0 wr)) (fun _ i _ => n1 - (intOf i).toNat)
      case atStart => exact ⟨0, _, Nat.zero_le _, rfl, rfl, hva0, hva1, Lib.hid (fun h => by have := HVA.out h; simp [namedTo]; omega), HBA⟩
      case round =>
        obtain ⟨k, v, hk, rfl, rfl, hva, hvb, HV, HB⟩ := hrel
        have r0 := ROW.out wr HB.out
        have b01 := (cell_of_row _ _ 1 _ _ _ r0).trans (show _ = some (.slice _ n1 c1 : Value) from rfl)
        clear r0
        have hzr := Nat.lt_of_lt_of_le hz HB.out.size
        by_cases hlt : k < n1
        · by_cases hv : v < 1048576
          · obtain ⟨b, off, A3, n3, c3, eA, _, hbl, j1, j2, hpl, q0, q1, q2, q3, _⟩ := (HT.out _ (HAL.out _ HB.out)).entry_at hlt
            subst eA
            have hkl : k < xs.length := by have := HL1.out; omega
            have hbb := HB1.out _ (getD_mem (d := default) hkl)
            have hn3 : n3 ≤ 140737488351232 := by have := hpl.len; omega
            have hd3 := hbb.1
            have HVN : Hid (v + ((xs.getD k default).digest.size : Int) + n3 < 1048576 → v0 + (slotsTo l l.length).length + (namedTo xs (k + 1)).length ≤ v + ((xs.getD k default).digest.size : Int) + n3) := Lib.hid (fun _ => by
              have h1 := HV.out hv; have h2 := hpl.len
              rw [namedTo_succ hkl, List.length_append, h2]; omega)
            generalize (xs.getD k default).digest = dg at *
            clear hpl q1 q2 j1 j2 hbb
            go_wp2_with fail
            have hext := cell_ext wr
            refine region_ext (by kernel_rfl) (by kernel_rfl) ?_
            repeat (go_big_quiet_step (fail))
            refine wpQuiet_nil ?_
            rintro _ ⟨X, rfl⟩
            have HB3 := Lib.hid (HB.out.trans ((below_ext wr X).mono HB.out.size))
            clear hext
            generalize wr.ext X = w3 at *
            clear b01 q0 q3
            go_wp2
            exact ⟨⟨k + 1, _, by omega, by go_num, rfl, by omega, by omega, HVN, HB3⟩, by simp [intOf]; omega⟩
          · go_wp2
            go_meet
            case rel => exact ⟨v, rfl, hva, hvb, Lib.hid (fun h => absurd h (by omega)), HB⟩
        · obtain rfl : n1 = k := by omega
          have HVE : Hid (v < 1048576 → v0 + (slotsTo l l.length).length + (namedTo xs xs.length).length ≤ v) := Lib.hid (fun h => by rw [HL1.out]; exact HV.out h)
          go_wp2
          go_meet
          case rel => exact ⟨v, rfl, hva, hvb, HVE, HB⟩
    case rest =>
      rename World => wd
      obtain ⟨vb, rfl, hvb0, hvb1, HVB, HBB⟩ := hcut
      go_wp2_with fail
      go_loopw [3, 6] (fun t i wr => ∃ k : Nat, ∃ v : Int, k ≤ n2 ∧ i = .int .i64 k ∧ t = .int .i64 v ∧ 0 ≤ v ∧ v ≤ 500000000000000 ∧ Hid (v < 1048576 → v0 + (slotsTo l l.length).length + (namedTo xs xs.length).length ≤ v) ∧ Hid (Below W0.heap.size W0 wr)) (fun _ i _ => n2 - (intOf i).toNat)
      case atStart => exact ⟨0, _, Nat.zero_le _, rfl, rfl, hvb0, hvb1, HVB, HBB⟩
      case round =>
        obtain ⟨k, v, hk, rfl, rfl, hva, hvb, HV, HB⟩ := hrel
        have r0 := ROW.out wr HB.out
        have b02 := (cell_of_row _ _ 2 _ _ _ r0).trans (show _ = some (.slice _ n2 c2 : Value) from rfl)
        clear r0
        have hzr := Nat.lt_of_lt_of_le hz HB.out.size
        have HFIN : Hid (v < 1048576 → (l.length : Int) + xs.length + gs.length + (slotsTo l l.length).length + (namedTo xs xs.length).length ≤ v) := Lib.hid (fun h => by
          have h1 := HV.out h; have h2 := HV0.out; rw [HL0.out, HL1.out, HL2.out] at *; omega)
        by_cases hlt : k < n2
        · by_cases hv : v < 1048576
          · obtain ⟨b, off, eA, _, hbl, j1, j2, q0, q1, _⟩ := (HG.out _ (HAL.out _ HB.out)).tag_at hlt
            subst eA
            have hkl : k < gs.length := by have := HL2.out; omega
            obtain ⟨hd3, hn3⟩ := HB2.out _ (getD_mem (d := default) hkl)
            have HVN : Hid (v + ((gs.getD k default).name.size : Int) + ((gs.getD k default).digest.size : Int) < 1048576 → v0 + (slotsTo l l.length).length + (namedTo xs xs.length).length ≤ v + ((gs.getD k default).name.size : Int) + ((gs.getD k default).digest.size : Int)) := Lib.hid (fun _ => by
              have h1 := HV.out hv; omega)
            generalize (gs.getD k default).name = nm at *
            generalize (gs.getD k default).digest = dg at *
            clear j1 j2
            go_wp2_with fail
            have hext := cell_ext wr
            refine region_ext (by kernel_rfl) (by kernel_rfl) ?_
            repeat (go_big_quiet_step (fail))
            refine wpQuiet_nil ?_
            rintro _ ⟨X, rfl⟩
            have HB3 := Lib.hid (HB.out.trans ((below_ext wr X).mono HB.out.size))
            clear hext
            generalize wr.ext X = w3 at *
            clear b02 q0 q1
            go_wp2
            exact ⟨⟨k + 1, _, by omega, by go_num, rfl, by omega, by omega, HVN, HB3⟩, by simp [intOf]; omega⟩
          · go_wp2
            go_ret
            exact ⟨v, rfl, HAL.out _ HB.out, fun h => absurd h (by omega)⟩
        · go_wp2
          go_ret
          exact ⟨v, rfl, HAL.out _ HB.out, HFIN.out⟩
theorem BookWeight_c {tg tg0 tg1 tg2 : Bool} {S : Nat → Prop} {w : World} {A0 A1 A2 : Option Addr} {n0 c0 n1 c1 n2 c2 : Nat} {b : Book} (hB : BookB b) (h : BookR w S tg tg0 tg1 tg2 A0 n0 c0 A1 n1 c1 A2 n2 c2 b) :
    Calls Try.prog 12 #[.agg #[.slice A0 n0 c0, .slice A1 n1 c1, .slice A2 n2 c2, .int .i64 b.next]] w (RetBW b w) := BookWeight_i hB h.st h.th h.ta
end Go.Proofs.Ytipecejghioicaa
