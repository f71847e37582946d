/- book.All: the records that make a book. Printed by gen_y9.py. -/
import Derived.Test.YtipecejghioicaaY8r
import Derived.Test.YtipecejghioicaaQ10r
import Derived.Test.YtipecejghioicaaS3r
import Derived.Deep.CutRange
import Derived.Deep.Light
namespace Go.Proofs.Ytipecejghioicaa
open Go.RowKit Go.Silo
/-- The least number behind the stripes. -/
def leastB (l : List Stripe) : Int := if 0 < l.length then (l.getD (l.length - 1) default).id + 1 else 0
def preB (b : Book) : List Record := if leastB b.stripes < b.next then [⟨1, b.next - 1, ByteArray.empty, ByteArray.empty, [], [⟨0, 0⟩]⟩] else []
/-- The records of a book. -/
def linesB (b : Book) : List Record := preB b ++ b.stripes.map commitR ++ b.things.map thingR ++ b.tags.map tagR
theorem take_map_succ {α β : Type} {f : α → β} {l : List α} {k : Nat} {d : α} (h : k < l.length) : (l.take (k + 1)).map f = (l.take k).map f ++ [f (l.getD k d)] := by
  rw [take_snoc_getD h, List.map_append]; rfl
set_option maxRecDepth 100000 in
set_option maxHeartbeats 16000000 in
theorem bookAll_c {tg tg0 tg1 tg2 : Bool} {S : Nat → Prop} {w : World} {A0 A1 A2 : Option Addr} {n0 c0 n1 c1 n2 c2 : Nat} {b : Book} (h : BookR w S tg tg0 tg1 tg2 A0 n0 c0 A1 n1 c1 A2 n2 c2 b) (hn : n0 ≤ 100000 ∧ n1 ≤ 100000 ∧ n2 ≤ 100000) (hp : ∀ y ∈ b.stripes, y.place.length ≤ 100000000) (hq : ∀ y ∈ b.things, y.list.length ≤ 100000000) (hid : ∀ j, j < b.stripes.length → 0 ≤ (b.stripes.getD j default).id ∧ (b.stripes.getD j default).id ≤ 1073741824) (hnx : 0 ≤ b.next ∧ b.next ≤ 1073741824) :
    Calls Try.prog 15 #[.agg #[.slice A0 n0 c0, .slice A1 n1 c1, .slice A2 n2 c2, .int .i64 b.next]] w (RetOwn 54 (recordE true) w (linesB b)) := by
  obtain ⟨i0, hii, hz0, hz1, hz2⟩ := info_parts Try.info_Record
  have HL0 := Lib.hid h.st.len
  have HL1 := Lib.hid h.th.len
  have HL2 := Lib.hid h.ta.len
  have hn0 := hn.1
  have hn1 := hn.2.1
  have hn2 := hn.2.2
  have HP := Lib.hid hp
  have HQ := Lib.hid hq
  have HI := Lib.hid hid
  have hx0 := hnx.1
  have hx1 := hnx.2
  clear hp hq hid hnx hn
  have hal : Below w.heap.size w (w.alloc (.cells #[.slice A0 n0 c0, .slice A1 n1 c1, .slice A2 n2 c2, .int .i64 b.next] 28)) := (by repeat' (first | (with_reducible exact Below.refl _ _) | (with_reducible refine Below.alloc ?_ ?_ _) | (with_reducible refine Below.drew ?_) | (with_reducible refine below_drewN ?_ _) | (with_reducible refine Below.setCell ?_ ?_ _) | (refine via ?_ (by with_reducible assumption) ?_) | (refine via ?_ (below_ext _ _) ?_) | go_size))
  have hr0 : (w.alloc (.cells #[.slice A0 n0 c0, .slice A1 n1 c1, .slice A2 n2 c2, .int .i64 b.next] 28)).heap[w.heap.size]? = some (.cells #[.slice A0 n0 c0, .slice A1 n1 c1, .slice A2 n2 c2, .int .i64 b.next] 28 (0, 0)) := by
    have := heap_alloc_new w (.cells #[.slice A0 n0 c0, .slice A1 n1 c1, .slice A2 n2 c2, .int .i64 b.next] 28)
    simpa only [World.size_alloc] using this
  have hz : w.heap.size < (w.alloc (.cells #[.slice A0 n0 c0, .slice A1 n1 c1, .slice A2 n2 c2, .int .i64 b.next] 28)).heap.size := by simp
  have HS := Lib.hid (fun W (hW : Below w.heap.size w W) => h.st.all hW)
  have HT := Lib.hid (fun W (hW : Below w.heap.size w W) => h.th.all hW)
  have HG := Lib.hid (fun W (hW : Below w.heap.size w W) => h.ta.all hW)
  clear h
  go_enter Try.func15, Try.ntmps15
  go_upto_region 1 with (fail)
  generalize (w.alloc (.cells #[.slice A0 n0 c0, .slice A1 n1 c1, .slice A2 n2 c2, .int .i64 b.next] 28)) = W0 at *
  have HAL := Lib.hid (fun V (hV : Below W0.heap.size W0 V) => hal.trans (hV.mono hal.size)); clear hal
  have ROW := Lib.hid (fun V (hV : Below W0.heap.size W0 V) => (show V.heap[w.heap.size]? = some (.cells #[.slice A0 n0 c0, .slice A1 n1 c1, .slice A2 n2 c2, .int .i64 b.next] 28 (0, 0)) from (hV.block _ (by omega)).trans hr0))
  clear hr0
  have hz1' : w.heap.size < W0.heap.size := by omega
  have r0 := ROW.out W0 (Below.refl _ _)
  have b00 := (cell_of_row _ _ 0 _ _ _ r0).trans (show _ = some (.slice _ n0 c0 : Value) from rfl)
  have b03 := (cell_of_row _ _ 3 _ _ _ r0).trans (show _ = some (.int .i64 b.next : Value) from rfl)
  clear r0
  go_upto_if 16 with (fail)
  go_cut [3] from 16 (fun t V => t = .int .i64 (leastB b.stripes) ∧ Hid (Below W0.heap.size W0 V))
  case first =>
    by_cases h0 : 0 < n0
    · obtain ⟨n', hn'⟩ : ∃ n', n0 = n' + 1 := ⟨n0 - 1, by omega⟩
      subst hn'
      obtain ⟨bs, os, A3, n3, c3, eA, _, hbs, _, _, _, _, u0, _⟩ := (HS.out W0 (HAL.out _ (Below.refl _ _))).stripe_at (k := n') (by omega)
      subst eA
      have hi9 := HI.out n' (by rw [HL0.out]; omega)
      have HLE : Hid (leastB b.stripes = (b.stripes.getD n' default).id + 1) := Lib.hid (by unfold leastB; rw [HL0.out, if_pos (by omega)]; rfl)
      generalize (b.stripes.getD n' default).id = y at *
      have hj1 : ((n' + 1 : Nat) : Int) - 1 = (n' : Int) := by omega
      go_wp2
      go_meet
      case rel => exact ⟨by rw [HLE.out], Lib.hid (Below.refl _ _)⟩
    · have HLE : Hid (leastB b.stripes = 0) := Lib.hid (by unfold leastB; rw [if_neg (by rw [HL0.out]; exact h0)])
      obtain rfl : n0 = 0 := by omega
      go_wp2
      go_meet
      case rel => exact ⟨by rw [HLE.out], Lib.hid (Below.refl _ _)⟩
  case rest =>
    rename World => wc
    obtain ⟨rfl, HBc⟩ := hcut
    clear b00 b03
    have r0 := ROW.out wc HBc.out
    have b03 := (cell_of_row _ _ 3 _ _ _ r0).trans (show _ = some (.int .i64 b.next : Value) from rfl)
    clear r0
    obtain ⟨lb, hlb⟩ : ∃ lb, lb = leastB b.stripes := ⟨_, rfl⟩
    rw [← hlb]
    have HPB : Hid (preB b = if lb < b.next then [⟨1, b.next - 1, ByteArray.empty, ByteArray.empty, [], [⟨0, 0⟩]⟩] else []) := Lib.hid (by unfold preB; rw [← hlb])
    clear hlb
    go_upto_if 28 with (fail)
    go_cut [2] from 28 (fun t V => ∃ A c, t = .slice A (preB b).length c ∧ Hid (Silo.Own 54 (recordE true) V W0.heap.size (fun q => W0.heap.size ≤ q) A (preB b).length c (preB b)) ∧ Hid (Below W0.heap.size W0 V))
    case first =>
      by_cases hl : lb < b.next
      · have HE : Hid (preB b = [⟨1, b.next - 1, ByteArray.empty, ByteArray.empty, [], [⟨0, 0⟩]⟩]) := Lib.hid (by rw [HPB.out, if_pos hl])
        have hsl := sl_one_slot' (p := ⟨0, 0⟩) ⟨(show I64 0 by unfold I64; omega), (show I64 0 by unfold I64; omega)⟩ (heap_alloc_new wc (.cells #[.int .i64 0, .int .i64 0] 67))
        have HSL := Lib.hid hsl; clear hsl
        have hbx : (b.next - 1) ≤ 1073741824 ∧ -1 ≤ b.next - 1 := by omega
        have HBX := Lib.hid hbx; clear hbx
        have HW := Lib.hid HBc.out.size
        go_wp2_with (at_builtin; refine wpList_append1 rfl _ _ 29 rfl i0 (.agg #[.int .i64 0, .int .i64 0, .string ByteArray.empty, .string ByteArray.empty, .slice none 0 0, .slice none 0 0]) 96 Try.underlying29 hii hz0 hz1 hz2 rfl (show 0 < 6 by decide) rfl (Own.nil_ (E := recordE true) (base := W0.heap.size) (S := fun q => W0.heap.size ≤ q)) (wc.heap.size + 1) 54 1 [.int .i64 1, .int .i64 (b.next - 1), .string ⟨#[]⟩, .string ⟨#[]⟩, .slice none 0 0, .slice (some ⟨wc.heap.size, 0, none⟩) 1 1] (⟨1, b.next - 1, ByteArray.empty, ByteArray.empty, [], [⟨0, 0⟩]⟩ : Record) rfl (by have := heap_alloc_new (wc.alloc (.cells #[.int .i64 0, .int .i64 0] 67)) (.cells #[.int .i64 1, .int .i64 (b.next - 1), .string ⟨#[]⟩, .string ⟨#[]⟩, .slice none 0 0, .slice (some ⟨wc.heap.size, 0, none⟩) 1 1] 54); rwa [World.size_alloc] at this) ⟨_, _, _, _, _, _, rfl, ⟨(show I64 1 by unfold I64; omega), (show I64 (b.next - 1) by have := HBX.out; unfold I64; omega), strOk_nil, strOk_nil⟩, Sl.nil_ (by omega), (HSL.out.all ((Below.refl _ _).alloc (Nat.le_refl _) _)).mono (fun q hq _ => ⟨by have := HW.out; have : q = wc.heap.size := hq; omega, fun e => by cases e⟩)⟩ (by omega) (by omega) (by have := HW.out; simp; omega) ?_)
        intro A9 c9 w9 hown hg _
        have HB9 := Lib.hid (((HBc.out.alloc HBc.out.size (.cells #[.int .i64 0, .int .i64 0] 67)).alloc (by have := HW.out; simp; omega) (.cells #[.int .i64 1, .int .i64 (b.next - 1), .string ⟨#[]⟩, .string ⟨#[]⟩, .slice none 0 0, .slice (some ⟨wc.heap.size, 0, none⟩) 1 1] 54)).grown hg (by have := HW.out; simp; omega) (fun k hk => by cases hk))
        have HOW := Lib.hid hown; clear hown hg
        go_wp2
        go_meet
        case rel => exact ⟨A9, c9, by rw [HE.out]; rfl, by rw [HE.out]; exact HOW, HB9⟩
      · have HE : Hid (preB b = []) := Lib.hid (by rw [HPB.out, if_neg hl])
        go_wp2
        go_meet
        case rel => exact ⟨none, 0, by rw [HE.out]; rfl, by rw [HE.out]; exact Lib.hid Own.nil_, HBc⟩
    case rest =>
      rename World => wd
      obtain ⟨A, c, rfl, HO, HBd⟩ := hcut
      clear b03 HBc HPB
      have HPL : Hid ((preB b).length ≤ 1) := Lib.hid (by unfold preB; split <;> simp)
      generalize hL0 : preB b = L0 at *
      have HL0E := Lib.hid hL0; clear hL0
      have hl0 := HPL.out
      have r0 := ROW.out wd HBd.out
      have b00 := (cell_of_row _ _ 0 _ _ _ r0).trans (show _ = some (.slice _ n0 c0 : Value) from rfl)
      clear r0
      go_wp2_with fail
      clear b00
      go_loopw [2, 41] (fun lv iv wr => ∃ (k : Nat) (A : Option Addr) (c : Nat), k ≤ n0 ∧ iv = .int .i64 k ∧ lv = .slice A (L0 ++ (b.stripes.take k).map commitR).length c ∧ Hid (Silo.Own 54 (recordE true) wr W0.heap.size (fun q => W0.heap.size ≤ q) A (L0 ++ (b.stripes.take k).map commitR).length c (L0 ++ (b.stripes.take k).map commitR)) ∧ Hid (Below W0.heap.size W0 wr)) (fun _ iv _ => n0 - (intOf iv).toNat)
      case atStart => exact ⟨0, A, c, Nat.zero_le _, rfl, by simp, by simpa using HO, HBd⟩
      case round =>
        rename World => wo
        clear HO HBd
        obtain ⟨k, A, c, hk, rfl, rfl, HO, HB⟩ := hrel
        by_cases hlt : k < n0
        · obtain ⟨bs, os, A3, n3, c3, eA, _, hbs, g1, g2, g3, hp3, u0, u1, u2, u3, _⟩ := (HS.out wo (HAL.out _ HB.out)).stripe_at hlt
          subst eA
          have HTK : Hid ((b.stripes.take (k + 1)).map commitR = (b.stripes.take k).map commitR ++ [commitR (b.stripes.getD k default)]) := Lib.hid (take_map_succ (by rw [HL0.out]; exact hlt))
          have HPX := Lib.hid (HP.out _ (mem_at (d := default) (by rw [HL0.out]; exact hlt)))
          generalize b.stripes.getD k default = x at *
          have HX := Lib.hid (And.intro g1 (And.intro g2 g3)); clear g1 g2 g3
          have HP3 := Lib.hid hp3; clear hp3
          have HLL : Hid ((L0 ++ (b.stripes.take k).map commitR).length ≤ 100001) := Lib.hid (by rw [List.length_append, List.length_map, List.length_take]; have := HPL.out; have := Nat.min_le_left k b.stripes.length; omega)
          obtain ⟨LL, hLL⟩ : ∃ LL, LL = L0 ++ (b.stripes.take k).map commitR := ⟨_, rfl⟩
          rw [← hLL] at HO HLL ⊢
          have HLN : Hid (L0 ++ (b.stripes.take (k + 1)).map commitR = LL ++ [commitR x]) := Lib.hid (by rw [HTK.out, hLL, List.append_assoc])
          clear hLL HTK
          go_upto_region 10 with (fail)
          have hal1 : Below wo.heap.size wo (wo.alloc (.cells #[.int .i64 x.id, .int .i64 x.len, .int .i64 x.gen, .slice A3 n3 c3] 69)) := (Below.refl _ _).alloc (Nat.le_refl _) _
          have hrow := heap_alloc_new wo (.cells #[.int .i64 x.id, .int .i64 x.len, .int .i64 x.gen, .slice A3 n3 c3] 69)
          have hbox : wo.heap.size < (wo.alloc (.cells #[.int .i64 x.id, .int .i64 x.len, .int .i64 x.gen, .slice A3 n3 c3] 69)).heap.size := by simp
          have HO1 := Lib.hid (HO.out.all hal1)
          have HB1 := Lib.hid (HB.out.trans (hal1.mono HB.out.size))
          have HP31 := Lib.hid (HP3.out.all hal1)
          clear hal1 u0 u1 u2 u3 HO HB HP3
          generalize (wo.alloc (.cells #[.int .i64 x.id, .int .i64 x.len, .int .i64 x.gen, .slice A3 n3 c3] 69)) = w1 at *
          generalize wo.heap.size = g6 at *
          have y0 := (cell_of_row _ _ 0 _ _ _ hrow).trans (show _ = some (.int .i64 x.id : Value) from rfl)
          have y1 := (cell_of_row _ _ 1 _ _ _ hrow).trans (show _ = some (.int .i64 x.len : Value) from rfl)
          have y2 := (cell_of_row _ _ 2 _ _ _ hrow).trans (show _ = some (.int .i64 x.gen : Value) from rfl)
          have y3 := (cell_of_row _ _ 3 _ _ _ hrow).trans (show _ = some (.slice A3 n3 c3 : Value) from rfl)
          clear hrow
          go_wp2_with fail
          refine (Commit_c (x := x) HX.out HP31.out (by rw [← HP31.out.len]; exact HPX.out)).mono ?_
          clear y0 y1 y2 y3
          rintro e w2 ⟨vs, rfl, hrec, hb2⟩
          obtain ⟨B4, m4, d4, B5, m5, d5, rfl, hok, t4, t5⟩ := hrec
          have HREC := Lib.hid (show (recordE true).R w2 (fun q => w1.heap.size ≤ q) [.int .i64 (commitR x).kind, .int .i64 (commitR x).id, .string (commitR x).name, .string (commitR x).digest, .slice B4 m4 d4, .slice B5 m5 d5] (commitR x) from ⟨_, _, _, _, _, _, rfl, hok, t4, t5⟩)
          have HO2 := Lib.hid (HO1.out.all hb2)
          have HB2 := Lib.hid (HB1.out.trans (hb2.mono HB1.out.size))
          have HS2 := Lib.hid hb2.size
          have HLT := Lib.hid HO1.out.lt
          clear hok t4 t5 hb2
          have hll := HLL.out
          go_wp2_with (at_builtin; refine wpList_append1 rfl _ _ 29 rfl i0 (.agg #[.int .i64 0, .int .i64 0, .string ByteArray.empty, .string ByteArray.empty, .slice none 0 0, .slice none 0 0]) 96 Try.underlying29 hii hz0 hz1 hz2 rfl (show 0 < 6 by decide) rfl (HO2.out.frame (Agree.alloc _ _ _) (by simp)) w2.heap.size 54 1 _ (commitR x) rfl (heap_alloc_new _ _) ((recordE true).frame (Agree.alloc _ _ _) (by simp) ((recordE true).mono (fun q hq _ => ⟨Nat.le_trans HB1.out.size hq, fun e => by have := (HLT.out q e.symm).2; omega⟩) HREC.out)) (by omega) (by omega) (by have := HB2.out.size; simp; omega) ?_)
          intro A2' c2' w3 hown3 hg3 _
          have HO3 := Lib.hid hown3; clear hown3
          have HB3 := Lib.hid (((HB2.out.alloc HB2.out.size _).grown hg3 (by have := HB2.out.size; simp; omega) (fun k hk => (HO2.out.lt k hk).1))); clear hg3
          go_wp2
          exact ⟨⟨k + 1, A2', c2', by omega, by go_num, by rw [HLN.out, List.length_append]; rfl, by rw [HLN.out, List.length_append]; exact HO3, HB3⟩, by simp [intOf]; omega⟩
        · obtain rfl : k = n0 := by omega
          have HLN : Hid ((b.stripes.take k).map commitR = b.stripes.map commitR) := Lib.hid (by rw [List.take_of_length_le (by rw [HL0.out]; exact Nat.le_refl _)])
          rw [HLN.out] at HO ⊢
          have HPL1 : Hid ((L0 ++ b.stripes.map commitR).length ≤ 100001) := Lib.hid (by rw [List.length_append, List.length_map, HL0.out]; have := HPL.out; omega)
          generalize hL1 : L0 ++ b.stripes.map commitR = L1 at *
          have HL1E := Lib.hid hL1; clear hL1
          clear HPL
          have hl1 := HPL1.out
          have r0 := ROW.out wo HB.out
          have b01 := (cell_of_row _ _ 1 _ _ _ r0).trans (show _ = some (.slice _ n1 c1 : Value) from rfl)
          clear r0
          go_wp2_with fail
          clear b01
          go_loopw [2, 54] (fun lv iv wr => ∃ (k : Nat) (A : Option Addr) (c : Nat), k ≤ n1 ∧ iv = .int .i64 k ∧ lv = .slice A (L1 ++ (b.things.take k).map thingR).length c ∧ Hid (Silo.Own 54 (recordE true) wr W0.heap.size (fun q => W0.heap.size ≤ q) A (L1 ++ (b.things.take k).map thingR).length c (L1 ++ (b.things.take k).map thingR)) ∧ Hid (Below W0.heap.size W0 wr)) (fun _ iv _ => n1 - (intOf iv).toNat)
          case atStart => exact ⟨0, A, c, Nat.zero_le _, rfl, by simp, by simpa using HO, HB⟩
          case round =>
            rename World => wp
            clear HO HB
            obtain ⟨k, A, c, hk, rfl, rfl, HO, HB⟩ := hrel
            by_cases hlt : k < n1
            · obtain ⟨bs, os, A3, n3, c3, eA, _, hbs, g1, g2, hp3, u0, u1, u2, u3, _⟩ := (HT.out wp (HAL.out _ HB.out)).entry_at hlt
              subst eA
              have HTK : Hid ((b.things.take (k + 1)).map thingR = (b.things.take k).map thingR ++ [thingR (b.things.getD k default)]) := Lib.hid (take_map_succ (by rw [HL1.out]; exact hlt))
              have HPX := Lib.hid (HQ.out _ (mem_at (d := default) (by rw [HL1.out]; exact hlt)))
              generalize b.things.getD k default = x at *
              have HX := Lib.hid (And.intro g1 g2); clear g1 g2
              have HP3 := Lib.hid hp3; clear hp3
              have HLL : Hid ((L1 ++ (b.things.take k).map thingR).length ≤ 300001) := Lib.hid (by rw [List.length_append, List.length_map, List.length_take]; have := HPL1.out; have := Nat.min_le_left k b.things.length; omega)
              obtain ⟨LL, hLL⟩ : ∃ LL, LL = L1 ++ (b.things.take k).map thingR := ⟨_, rfl⟩
              rw [← hLL] at HO HLL ⊢
              have HLN : Hid (L1 ++ (b.things.take (k + 1)).map thingR = LL ++ [thingR x]) := Lib.hid (by rw [HTK.out, hLL, List.append_assoc])
              clear hLL HTK
              obtain ⟨dg, ln, man, li⟩ := x
              simp only at *
              go_upto_region 15 with (fail)
              have hal1 : Below wp.heap.size wp (wp.alloc (.cells #[.string dg, .int .i64 ln, .bool man, .slice A3 n3 c3] 71)) := (Below.refl _ _).alloc (Nat.le_refl _) _
              have hrow := heap_alloc_new wp (.cells #[.string dg, .int .i64 ln, .bool man, .slice A3 n3 c3] 71)
              have hbox : wp.heap.size < (wp.alloc (.cells #[.string dg, .int .i64 ln, .bool man, .slice A3 n3 c3] 71)).heap.size := by simp
              have HLT := Lib.hid HO.out.lt
              have HO1 := Lib.hid (HO.out.all hal1)
              have HB1 := Lib.hid (HB.out.trans (hal1.mono HB.out.size))
              have HP31 := Lib.hid (HP3.out.all hal1)
              clear hal1 u0 u1 u2 u3 HO HB HP3
              have hg8 : some wp.heap.size ≠ ablk A := fun e => by have := (HLT.out _ e.symm).2; omega
              generalize (wp.alloc (.cells #[.string dg, .int .i64 ln, .bool man, .slice A3 n3 c3] 71)) = w1 at *
              generalize wp.heap.size = g8 at *
              have R8 := Lib.hid hrow
              have y2 := (cell_of_row _ _ 2 _ _ _ hrow).trans (show _ = some (.bool man : Value) from rfl)
              clear hrow HLT
              have hcl9 : n3 ≤ 100000000 := by rw [← HP31.out.len]; exact HPX.out
              have hll := HLL.out
              cases man with
              | false =>
                go_upto_region 18 with (fail)
                clear y2
                refine all18 (kd := 4) (ln := ln) (dg := dg) (xs := li) HO1 HB1.out.size (by omega) R8 hg8 (Lib.hid ⟨(show I64 4 by unfold I64; omega), HX.out.2, HX.out.1⟩) (Lib.hid (fun V hV => Clone_int (HP31.out.all hV) hcl9)) rfl rfl rfl rfl ?_
                intro v wz A' c' hv hown hchg
                simp only [putAll, List.map_cons, List.map_nil, List.foldl_cons, List.foldl_nil, Act.put, List.setIfInBounds_toArray, List.set_cons_succ, List.set_cons_zero]
                rw [hv]
                have HOZ := Lib.hid hown; clear hown
                have HBZ := Lib.hid (HB1.out.trans (hchg.below _ HB1.out.size (fun q hq => (HO1.out.lt q hq).1)))
                clear hchg hv
                go_wp2
                exact ⟨⟨k + 1, A', c', by omega, by go_num, by rw [HLN.out, List.length_append]; rfl, by rw [HLN.out, List.length_append]; exact HOZ, HBZ⟩, by simp [intOf]; omega⟩
              | true =>
                go_upto_region 18 with (fail)
                clear y2
                refine all18 (kd := 5) (ln := ln) (dg := dg) (xs := li) HO1 HB1.out.size (by omega) R8 hg8 (Lib.hid ⟨(show I64 5 by unfold I64; omega), HX.out.2, HX.out.1⟩) (Lib.hid (fun V hV => Clone_int (HP31.out.all hV) hcl9)) rfl rfl rfl rfl ?_
                intro v wz A' c' hv hown hchg
                simp only [putAll, List.map_cons, List.map_nil, List.foldl_cons, List.foldl_nil, Act.put, List.setIfInBounds_toArray, List.set_cons_succ, List.set_cons_zero]
                rw [hv]
                have HOZ := Lib.hid hown; clear hown
                have HBZ := Lib.hid (HB1.out.trans (hchg.below _ HB1.out.size (fun q hq => (HO1.out.lt q hq).1)))
                clear hchg hv
                go_wp2
                exact ⟨⟨k + 1, A', c', by omega, by go_num, by rw [HLN.out, List.length_append]; rfl, by rw [HLN.out, List.length_append]; exact HOZ, HBZ⟩, by simp [intOf]; omega⟩
            · obtain rfl : k = n1 := by omega
              have HLN : Hid ((b.things.take k).map thingR = b.things.map thingR) := Lib.hid (by rw [List.take_of_length_le (by rw [HL1.out]; exact Nat.le_refl _)])
              rw [HLN.out] at HO ⊢
              have HPL2 : Hid ((L1 ++ b.things.map thingR).length ≤ 300001) := Lib.hid (by rw [List.length_append, List.length_map, HL1.out]; have := HPL1.out; omega)
              generalize hL2 : L1 ++ b.things.map thingR = L2 at *
              have HL2E := Lib.hid hL2; clear hL2 hl1
              have hl2 := HPL2.out
              have r0 := ROW.out wp HB.out
              have b02 := (cell_of_row _ _ 2 _ _ _ r0).trans (show _ = some (.slice _ n2 c2 : Value) from rfl)
              clear r0
              go_wp2_with fail
              clear b02
              go_loopw [2, 76] (fun lv iv wr => ∃ (k : Nat) (A : Option Addr) (c : Nat), k ≤ n2 ∧ iv = .int .i64 k ∧ lv = .slice A (L2 ++ (b.tags.take k).map tagR).length c ∧ Hid (Silo.Own 54 (recordE true) wr W0.heap.size (fun q => W0.heap.size ≤ q) A (L2 ++ (b.tags.take k).map tagR).length c (L2 ++ (b.tags.take k).map tagR)) ∧ Hid (Below W0.heap.size W0 wr)) (fun _ iv _ => n2 - (intOf iv).toNat)
              case atStart => exact ⟨0, A, c, Nat.zero_le _, rfl, by simp, by simpa using HO, HB⟩
              case round =>
                rename World => wq
                clear HO HB
                obtain ⟨k, A, c, hk, rfl, rfl, HO, HB⟩ := hrel
                by_cases hlt : k < n2
                · obtain ⟨bs, os, eA, _, hbs, g1, g2, u0, u1, _⟩ := (HG.out wq (HAL.out _ HB.out)).tag_at hlt
                  subst eA
                  have HTK : Hid ((b.tags.take (k + 1)).map tagR = (b.tags.take k).map tagR ++ [tagR (b.tags.getD k default)]) := Lib.hid (take_map_succ (by rw [HL2.out]; exact hlt))
                  generalize b.tags.getD k default = x at *
                  have HX := Lib.hid (And.intro g1 g2); clear g1 g2
                  have HLL : Hid ((L2 ++ (b.tags.take k).map tagR).length ≤ 500001) := Lib.hid (by rw [List.length_append, List.length_map, List.length_take]; have := HPL2.out; have := Nat.min_le_left k b.tags.length; omega)
                  obtain ⟨LL, hLL⟩ : ∃ LL, LL = L2 ++ (b.tags.take k).map tagR := ⟨_, rfl⟩
                  rw [← hLL] at HO HLL ⊢
                  have HLN : Hid (L2 ++ (b.tags.take (k + 1)).map tagR = LL ++ [tagR x]) := Lib.hid (by rw [HTK.out, hLL, List.append_assoc])
                  clear hLL HTK
                  obtain ⟨nm, dg⟩ := x
                  simp only at *
                  go_upto_region 23 with (fail)
                  have hal1 : Below wq.heap.size wq (wq.alloc (.cells #[.string nm, .string dg] 73)) := (Below.refl _ _).alloc (Nat.le_refl _) _
                  have hrow := heap_alloc_new wq (.cells #[.string nm, .string dg] 73)
                  have hbox : wq.heap.size < (wq.alloc (.cells #[.string nm, .string dg] 73)).heap.size := by simp
                  have HO1 := Lib.hid (HO.out.all hal1)
                  have HB1 := Lib.hid (HB.out.trans (hal1.mono HB.out.size))
                  clear hal1 u0 u1 HO HB
                  generalize (wq.alloc (.cells #[.string nm, .string dg] 73)) = w1 at *
                  generalize wq.heap.size = g11 at *
                  have y0 := (cell_of_row _ _ 0 _ _ _ hrow).trans (show _ = some (.string nm : Value) from rfl)
                  have y1 := (cell_of_row _ _ 1 _ _ _ hrow).trans (show _ = some (.string dg : Value) from rfl)
                  clear hrow
                  have hll := HLL.out
                  go_wp2_with (at_builtin; refine wpList_append1 rfl _ _ 29 rfl i0 (.agg #[.int .i64 0, .int .i64 0, .string ByteArray.empty, .string ByteArray.empty, .slice none 0 0, .slice none 0 0]) 96 Try.underlying29 hii hz0 hz1 hz2 rfl (show 0 < 6 by decide) rfl (HO1.out.frame (Agree.alloc _ _ _) (by simp)) w1.heap.size 54 1 [.int .i64 7, .int .i64 0, .string nm, .string dg, .slice none 0 0, .slice none 0 0] (tagR ⟨nm, dg⟩) rfl (heap_alloc_new _ _) ⟨_, _, _, _, _, _, rfl, ⟨(show I64 7 by unfold I64; omega), (show I64 0 by unfold I64; omega), HX.out.1, HX.out.2⟩, Sl.nil_ (by omega), Sl.nil_ (by omega)⟩ (by omega) (by omega) (by have := HB1.out.size; simp; omega) ?_)
                  intro A2' c2' w3 hown3 hg3 _
                  have HO3 := Lib.hid hown3; clear hown3
                  have HB3 := Lib.hid (((HB1.out.alloc HB1.out.size _).grown hg3 (by have := HB1.out.size; simp; omega) (fun k hk => (HO1.out.lt k hk).1))); clear hg3
                  go_wp2
                  exact ⟨⟨k + 1, A2', c2', by omega, by go_num, by rw [HLN.out, List.length_append]; rfl, by rw [HLN.out, List.length_append]; exact HO3, HB3⟩, by simp [intOf]; omega⟩
                · obtain rfl : k = n2 := by omega
                  have HLN : Hid ((b.tags.take k).map tagR = b.tags.map tagR) := Lib.hid (by rw [List.take_of_length_le (by rw [HL2.out]; exact Nat.le_refl _)])
                  rw [HLN.out] at HO ⊢
                  have HLB : Hid (linesB b = L2 ++ b.tags.map tagR) := Lib.hid (by unfold linesB; rw [HL0E.out, HL1E.out, HL2E.out])
                  go_wp2
                  go_ret
                  refine ⟨A, c, by rw [HLB.out]; rfl, ?_, HAL.out _ HB.out⟩
                  rw [HLB.out]
                  exact (HO.out.lower (Nat.le_of_lt (Nat.lt_of_le_of_lt (Nat.le_refl _) hz1'))).mono (fun q hq _ => Nat.le_trans (Nat.le_of_lt hz1') hq)
end Go.Proofs.Ytipecejghioicaa
