/- How uneven slots are: place.edges, place.Spread. Printed by gen_e3.py. -/
import Derived.Test.YtjeecdoffoahkaaE2
import Derived.Test.YtjeecdoffoahkaaB2
import Derived.Test.YtjeecdoffoahkaaT1
import Derived.Deep.Cut
namespace Go.Proofs.Ytjeecdoffoahkaa
open Go.RowKit Go.Silo

/-- How many slots of disk d are free. -/
def lenF (x : SlotsD) (d : Nat) : Nat := (x.free.getD d []).length
def edgeStep (x : SlotsD) (E : Nat × Nat × Bool) (d : Nat) : Nat × Nat × Bool :=
  if x.live.getD d false = true then (if E.2.2 = true ∧ ¬ lenF x d < lenF x E.1 then E.1 else d, if E.2.2 = true ∧ ¬ lenF x E.2.1 < lenF x d then E.2.1 else d, true) else E
/-- What edges has come to behind the first k disks. -/
def edgesN (x : SlotsD) (k : Nat) : Nat × Nat × Bool := (List.range k).foldl (edgeStep x) (0, 0, false)
theorem edgesN_succ (x : SlotsD) (k : Nat) : edgesN x (k + 1) = edgeStep x (edgesN x k) k := by unfold edgesN; rw [List.range_succ, List.foldl_append]; rfl
theorem edgesN_lt (x : SlotsD) : ∀ k, (edgesN x k).2.2 = true → (edgesN x k).1 < k ∧ (edgesN x k).2.1 < k
  | 0, h => by cases h
  | k + 1, h => by
    rw [edgesN_succ] at h ⊢
    have ih := edgesN_lt x k
    generalize edgesN x k = E at *
    unfold edgeStep at h ⊢
    by_cases hl : x.live.getD k false = true
    · rw [if_pos hl] at h ⊢
      simp only
      refine ⟨?_, ?_⟩
      · split
        · rename_i hh; have := (ih hh.1).1; omega
        · omega
      · split
        · rename_i hh; have := (ih hh.1).2; omega
        · omega
    · rw [if_neg hl] at h ⊢
      have := ih h
      omega
/-- How uneven slots are. -/
def spreadX (x : SlotsD) : Int := if (edgesN x x.live.length).2.2 = true then (lenF x (edgesN x x.live.length).2.1 : Int) - lenF x (edgesN x x.live.length).1 else 0
theorem edgesN_any (x : SlotsD) : ∀ k, (edgesN x k).2.2 = false → ∀ j, j < k → x.live.getD j false = false
  | 0, _, j, hj => by omega
  | k + 1, h, j, hj => by
    rw [edgesN_succ] at h
    unfold edgeStep at h
    by_cases hl : x.live.getD k false = true
    · rw [if_pos hl] at h; cases h
    · rw [if_neg hl] at h
      rcases Nat.lt_or_ge j k with hjk | hjk
      · exact edgesN_any x k h j hjk
      · obtain rfl : j = k := by omega
        simpa using hl

set_option maxRecDepth 100000 in
set_option maxHeartbeats 4000000 in
theorem placeEdges_c {tg : Bool} {S : Nat → Prop} {w : World} {A0 A1 : Option Addr} {n0 c0 n1 c1 : Nat} {x : SlotsD} (hx : SlotsOk x)
    (h0 : Sl tg 4 boolE w S A0 n0 c0 x.live) (h1 : Sl tg 52 (slE tg 3 intE) w S A1 n1 c1 x.free) :
    Calls Try.prog 88 #[.agg #[.slice A0 n0 c0, .slice A1 n1 c1]] w (RetV (.tuple #[.int .i64 ((edgesN x x.live.length).1 : Nat), .int .i64 ((edgesN x x.live.length).2.1 : Nat), .bool (edgesN x x.live.length).2.2]) w) := by
  have HL0 := Lib.hid h0.len
  have HL1 := Lib.hid h1.len
  rw [HL0.out]
  have hn10 : n1 = n0 := by have := hx.same; have := HL0.out; have := HL1.out; omega
  subst hn10
  have hn : n1 ≤ 12 := by have := hx.most; have := HL0.out; omega
  have h63 : Hid (∀ d, d < n1 → lenF x d ≤ 64) := Lib.hid (fun d hd => pigeon (hx.free _ (getD_mem (d := []) (by have := HL1.out; omega))))
  clear hx
  have hal : Below w.heap.size w (w.alloc (.cells #[.slice A0 n1 c0, .slice A1 n1 c1] 62)) := (by repeat' (first | (with_reducible exact Below.refl _ _) | (with_reducible refine Below.alloc ?_ ?_ _) | (with_reducible refine Below.drew ?_) | (with_reducible refine below_drewN ?_ _) | (with_reducible refine Below.setCell ?_ ?_ _) | (refine via ?_ (by with_reducible assumption) ?_) | (refine via ?_ (below_ext _ _) ?_) | go_size))
  have H0 := Lib.hid (h0.all hal)
  have H1 := Lib.hid (h1.all hal)
  have hrow := heap_alloc_new w (.cells #[.slice A0 n1 c0, .slice A1 n1 c1] 62)
  have hz : w.heap.size < (w.alloc (.cells #[.slice A0 n1 c0, .slice A1 n1 c1] 62)).heap.size := by simp
  clear h0 h1
  go_enter Try.func88, Try.ntmps88
  go_upto_region 1 with (fail)
  generalize (w.alloc (.cells #[.slice A0 n1 c0, .slice A1 n1 c1] 62)) = W0 at *
  have HAL := Lib.hid (fun W (hW : Below W0.heap.size W0 W) => hal.trans (hW.mono (Nat.le_of_lt hz))); clear hal
  have p0 := (cell_of_row W0 w.heap.size 0 _ _ _ hrow).trans (show _ = some (Value.slice A0 n1 c0) from rfl)
  go_wp2_with fail
  go_loopw [2, 3, 4, 10] (fun f e o i wr => ∃ k : Nat, k ≤ n1 ∧ i = .int .i64 k ∧ f = .int .i64 ((edgesN x k).1 : Nat) ∧ e = .int .i64 ((edgesN x k).2.1 : Nat) ∧ o = .bool (edgesN x k).2.2 ∧ Hid (Below W0.heap.size W0 wr)) (fun _ _ _ i _ => n1 - (intOf i).toNat)
  case atStart => exact ⟨0, Nat.zero_le _, rfl, rfl, rfl, rfl, Lib.hid (Below.refl _ _)⟩
  case round =>
    clear p0
    obtain ⟨k, hk, rfl, rfl, rfl, rfl, HB⟩ := hrel
    have HLTE := Lib.hid (edgesN_lt x k)
    have HSUC := Lib.hid (edgesN_succ x k)
    generalize hE : edgesN x k = E at *
    have HE := Lib.hid hE; clear hE
    obtain ⟨f, e, o⟩ := E
    by_cases hlt : k < n1
    · obtain ⟨b0, o0, rfl, _, hbl0, hv, _⟩ := (H0.out.all HB.out).bool_at hlt
      have hlen : ∀ V, Below W0.heap.size W0 V → V.cell? ⟨w.heap.size, 1, none⟩ = some (.slice A1 n1 c1) := fun V hV => (cell_of_row V w.heap.size 1 _ _ _ ((hV.block _ hz).trans hrow)).trans rfl
      have HLEN := Lib.hid hlen; clear hlen
      cases hlv : x.live.getD k false with
      | false =>
        rw [hlv] at hv
        have HF : Hid (edgesN x (k + 1) = (f, e, o)) := Lib.hid (by rw [HSUC.out]; unfold edgeStep; rw [hlv, if_neg (by simp)])
        clear hlv
        go_wp2
        go_roundw
        case rel => exact ⟨k + 1, by omega, by go_num, by rw [HF.out], by rw [HF.out], by rw [HF.out], HB⟩
        case measure => simp [intOf]; omega
      | true =>
        rw [hlv] at hv
        have hstep : edgesN x (k + 1) = (if o = true ∧ ¬ lenF x k < lenF x f then f else k, if o = true ∧ ¬ lenF x e < lenF x k then e else k, true) := by rw [HSUC.out]; unfold edgeStep; rw [if_pos hlv]
        clear hlv
        obtain ⟨b1, o1, Ak, nk, ck, rfl, hS1, hbl1, hk1, qk, _⟩ := H1.out.sl_at hlt
        have hnk : lenF x k = nk := hk1.len
        have hnk64 : nk ≤ 64 := by rw [← hnk]; exact h63.out k hlt
        have hckk : nk ≤ ck := hk1.le
        clear hk1
        cases o with
        | false =>
          have HF : Hid (edgesN x (k + 1) = (k, k, true)) := Lib.hid (by rw [hstep, if_neg (by simp), if_neg (by simp)])
          clear hstep hnk
          have pX := HLEN.out wr HB.out
          have zX := Nat.lt_of_lt_of_le hz HB.out.size
          have zY := Nat.lt_of_lt_of_le hbl1 HB.out.size
          go_wp2_with fail
          have hext := cell_ext wr
          refine region_ext (by kernel_rfl) (by kernel_rfl) ?_
          repeat (go_big_quiet_step (fail))
          refine wpQuiet_nil ?_
          rintro _ ⟨X, rfl⟩
          have HB3 := Lib.hid (HB.out.trans ((below_ext wr X).mono HB.out.size))
          clear hext pX zX zY
          generalize wr.ext X = w3 at *
          have pX := HLEN.out w3 HB3.out
          have zX := Nat.lt_of_lt_of_le hz HB3.out.size
          have zY := Nat.lt_of_lt_of_le hbl1 HB3.out.size
          go_wp2_with fail
          have hext := cell_ext w3
          refine region_ext (by kernel_rfl) (by kernel_rfl) ?_
          repeat (go_big_quiet_step (fail))
          refine wpQuiet_nil ?_
          rintro _ ⟨X, rfl⟩
          have HB43 := Lib.hid (HB3.out.trans ((below_ext w3 X).mono HB3.out.size))
          clear hext pX zX zY
          generalize w3.ext X = w4 at *
          go_wp2
          go_roundw
          case rel => exact ⟨k + 1, by omega, by go_num, by rw [HF.out], by rw [HF.out], by rw [HF.out], HB43⟩
          case measure => simp [intOf]; omega
        | true =>
          obtain ⟨hf, he⟩ := HLTE.out rfl
          have hf' : f < n1 := by show f < n1; have : f < k := hf; omega
          have he' : e < n1 := by show e < n1; have : e < k := he; omega
          obtain ⟨b1', o1', Af, nf, cf, ef, _, _, hf1, qf, _⟩ := H1.out.sl_at hf'
          injection ef with ef; injection ef with ef1 ef2 _; subst ef1; subst ef2
          obtain ⟨b1', o1', Ae, ne, ce, ee, _, _, he1, qe, _⟩ := H1.out.sl_at he'
          injection ee with ee; injection ee with ee1 ee2 _; subst ee1; subst ee2
          have hnf : lenF x f = nf := hf1.len
          have hne : lenF x e = ne := he1.len
          have hnf64 : nf ≤ 64 := by rw [← hnf]; exact h63.out f hf'
          have hne64 : ne ≤ 64 := by rw [← hne]; exact h63.out e he'
          clear hf1 he1 hf he
          rw [hnk, hnf, hne] at hstep
          clear hnk hnf hne
          by_cases h5 : nk < nf
          · have d5 : decide ((nk : Int) < nf) = true := decide_eq_true (by omega)
            by_cases h7 : ne < nk
            · have d7 : decide ((ne : Int) < nk) = true := decide_eq_true (by omega)
              have HF : Hid (edgesN x (k + 1) = (k, k, true)) := Lib.hid (by rw [hstep, if_neg (fun h => h.2 h5), if_neg (fun h => h.2 h7)])
              clear hstep
              have pX := HLEN.out wr HB.out
              have zX := Nat.lt_of_lt_of_le hz HB.out.size
              have zY := Nat.lt_of_lt_of_le hbl1 HB.out.size
              have qkX := (HB.out.cell (p := ⟨b1, o1 + k, none⟩) hbl1).trans qk
              have qfX := (HB.out.cell (p := ⟨b1, o1 + f, none⟩) hbl1).trans qf
              have qeX := (HB.out.cell (p := ⟨b1, o1 + e, none⟩) hbl1).trans qe
              go_wp2_with fail
              have hext := cell_ext wr
              refine region_ext (by kernel_rfl) (by kernel_rfl) ?_
              repeat (go_big_quiet_step (fail))
              refine wpQuiet_nil ?_
              rintro _ ⟨X, rfl⟩
              have HB3 := Lib.hid (HB.out.trans ((below_ext wr X).mono HB.out.size))
              clear hext pX zX zY qkX qfX qeX
              generalize wr.ext X = w3 at *
              have pX := HLEN.out w3 HB3.out
              have zX := Nat.lt_of_lt_of_le hz HB3.out.size
              have zY := Nat.lt_of_lt_of_le hbl1 HB3.out.size
              have qkX := (HB3.out.cell (p := ⟨b1, o1 + k, none⟩) hbl1).trans qk
              have qfX := (HB3.out.cell (p := ⟨b1, o1 + f, none⟩) hbl1).trans qf
              have qeX := (HB3.out.cell (p := ⟨b1, o1 + e, none⟩) hbl1).trans qe
              go_wp2_with fail
              have hext := cell_ext w3
              refine region_ext (by kernel_rfl) (by kernel_rfl) ?_
              repeat (go_big_quiet_step (fail))
              refine wpQuiet_nil ?_
              rintro _ ⟨X, rfl⟩
              have HB43 := Lib.hid (HB3.out.trans ((below_ext w3 X).mono HB3.out.size))
              clear hext pX zX zY qkX qfX qeX
              generalize w3.ext X = w4 at *
              go_wp2
              go_roundw
              case rel => exact ⟨k + 1, by omega, by go_num, by rw [HF.out], by rw [HF.out], by rw [HF.out], HB43⟩
              case measure => simp [intOf]; omega
            · have d7 : decide ((ne : Int) < nk) = false := decide_eq_false (by omega)
              have HF : Hid (edgesN x (k + 1) = (k, e, true)) := Lib.hid (by rw [hstep, if_neg (fun h => h.2 h5), if_pos ⟨rfl, h7⟩])
              clear hstep
              have pX := HLEN.out wr HB.out
              have zX := Nat.lt_of_lt_of_le hz HB.out.size
              have zY := Nat.lt_of_lt_of_le hbl1 HB.out.size
              have qkX := (HB.out.cell (p := ⟨b1, o1 + k, none⟩) hbl1).trans qk
              have qfX := (HB.out.cell (p := ⟨b1, o1 + f, none⟩) hbl1).trans qf
              have qeX := (HB.out.cell (p := ⟨b1, o1 + e, none⟩) hbl1).trans qe
              go_wp2_with fail
              have hext := cell_ext wr
              refine region_ext (by kernel_rfl) (by kernel_rfl) ?_
              repeat (go_big_quiet_step (fail))
              refine wpQuiet_nil ?_
              rintro _ ⟨X, rfl⟩
              have HB3 := Lib.hid (HB.out.trans ((below_ext wr X).mono HB.out.size))
              clear hext pX zX zY qkX qfX qeX
              generalize wr.ext X = w3 at *
              have pX := HLEN.out w3 HB3.out
              have zX := Nat.lt_of_lt_of_le hz HB3.out.size
              have zY := Nat.lt_of_lt_of_le hbl1 HB3.out.size
              have qkX := (HB3.out.cell (p := ⟨b1, o1 + k, none⟩) hbl1).trans qk
              have qfX := (HB3.out.cell (p := ⟨b1, o1 + f, none⟩) hbl1).trans qf
              have qeX := (HB3.out.cell (p := ⟨b1, o1 + e, none⟩) hbl1).trans qe
              go_wp2_with fail
              have hext := cell_ext w3
              refine region_ext (by kernel_rfl) (by kernel_rfl) ?_
              repeat (go_big_quiet_step (fail))
              refine wpQuiet_nil ?_
              rintro _ ⟨X, rfl⟩
              have HB43 := Lib.hid (HB3.out.trans ((below_ext w3 X).mono HB3.out.size))
              clear hext pX zX zY qkX qfX qeX
              generalize w3.ext X = w4 at *
              go_wp2
              go_roundw
              case rel => exact ⟨k + 1, by omega, by go_num, by rw [HF.out], by rw [HF.out], by rw [HF.out], HB43⟩
              case measure => simp [intOf]; omega
          · have d5 : decide ((nk : Int) < nf) = false := decide_eq_false (by omega)
            by_cases h7 : ne < nk
            · have d7 : decide ((ne : Int) < nk) = true := decide_eq_true (by omega)
              have HF : Hid (edgesN x (k + 1) = (f, k, true)) := Lib.hid (by rw [hstep, if_pos ⟨rfl, h5⟩, if_neg (fun h => h.2 h7)])
              clear hstep
              have pX := HLEN.out wr HB.out
              have zX := Nat.lt_of_lt_of_le hz HB.out.size
              have zY := Nat.lt_of_lt_of_le hbl1 HB.out.size
              have qkX := (HB.out.cell (p := ⟨b1, o1 + k, none⟩) hbl1).trans qk
              have qfX := (HB.out.cell (p := ⟨b1, o1 + f, none⟩) hbl1).trans qf
              have qeX := (HB.out.cell (p := ⟨b1, o1 + e, none⟩) hbl1).trans qe
              go_wp2_with fail
              have hext := cell_ext wr
              refine region_ext (by kernel_rfl) (by kernel_rfl) ?_
              repeat (go_big_quiet_step (fail))
              refine wpQuiet_nil ?_
              rintro _ ⟨X, rfl⟩
              have HB3 := Lib.hid (HB.out.trans ((below_ext wr X).mono HB.out.size))
              clear hext pX zX zY qkX qfX qeX
              generalize wr.ext X = w3 at *
              have pX := HLEN.out w3 HB3.out
              have zX := Nat.lt_of_lt_of_le hz HB3.out.size
              have zY := Nat.lt_of_lt_of_le hbl1 HB3.out.size
              have qkX := (HB3.out.cell (p := ⟨b1, o1 + k, none⟩) hbl1).trans qk
              have qfX := (HB3.out.cell (p := ⟨b1, o1 + f, none⟩) hbl1).trans qf
              have qeX := (HB3.out.cell (p := ⟨b1, o1 + e, none⟩) hbl1).trans qe
              go_wp2_with fail
              have hext := cell_ext w3
              refine region_ext (by kernel_rfl) (by kernel_rfl) ?_
              repeat (go_big_quiet_step (fail))
              refine wpQuiet_nil ?_
              rintro _ ⟨X, rfl⟩
              have HB43 := Lib.hid (HB3.out.trans ((below_ext w3 X).mono HB3.out.size))
              clear hext pX zX zY qkX qfX qeX
              generalize w3.ext X = w4 at *
              go_wp2
              go_roundw
              case rel => exact ⟨k + 1, by omega, by go_num, by rw [HF.out], by rw [HF.out], by rw [HF.out], HB43⟩
              case measure => simp [intOf]; omega
            · have d7 : decide ((ne : Int) < nk) = false := decide_eq_false (by omega)
              have HF : Hid (edgesN x (k + 1) = (f, e, true)) := Lib.hid (by rw [hstep, if_pos ⟨rfl, h5⟩, if_pos ⟨rfl, h7⟩])
              clear hstep
              have pX := HLEN.out wr HB.out
              have zX := Nat.lt_of_lt_of_le hz HB.out.size
              have zY := Nat.lt_of_lt_of_le hbl1 HB.out.size
              have qkX := (HB.out.cell (p := ⟨b1, o1 + k, none⟩) hbl1).trans qk
              have qfX := (HB.out.cell (p := ⟨b1, o1 + f, none⟩) hbl1).trans qf
              have qeX := (HB.out.cell (p := ⟨b1, o1 + e, none⟩) hbl1).trans qe
              go_wp2_with fail
              have hext := cell_ext wr
              refine region_ext (by kernel_rfl) (by kernel_rfl) ?_
              repeat (go_big_quiet_step (fail))
              refine wpQuiet_nil ?_
              rintro _ ⟨X, rfl⟩
              have HB3 := Lib.hid (HB.out.trans ((below_ext wr X).mono HB.out.size))
              clear hext pX zX zY qkX qfX qeX
              generalize wr.ext X = w3 at *
              have pX := HLEN.out w3 HB3.out
              have zX := Nat.lt_of_lt_of_le hz HB3.out.size
              have zY := Nat.lt_of_lt_of_le hbl1 HB3.out.size
              have qkX := (HB3.out.cell (p := ⟨b1, o1 + k, none⟩) hbl1).trans qk
              have qfX := (HB3.out.cell (p := ⟨b1, o1 + f, none⟩) hbl1).trans qf
              have qeX := (HB3.out.cell (p := ⟨b1, o1 + e, none⟩) hbl1).trans qe
              go_wp2_with fail
              have hext := cell_ext w3
              refine region_ext (by kernel_rfl) (by kernel_rfl) ?_
              repeat (go_big_quiet_step (fail))
              refine wpQuiet_nil ?_
              rintro _ ⟨X, rfl⟩
              have HB43 := Lib.hid (HB3.out.trans ((below_ext w3 X).mono HB3.out.size))
              clear hext pX zX zY qkX qfX qeX
              generalize w3.ext X = w4 at *
              go_wp2
              go_roundw
              case rel => exact ⟨k + 1, by omega, by go_num, by rw [HF.out], by rw [HF.out], by rw [HF.out], HB43⟩
              case measure => simp [intOf]; omega
    · obtain rfl : n1 = k := by omega
      have HFIN : Hid (RetV (.tuple #[.int .i64 ((edgesN x n1).1 : Nat), .int .i64 ((edgesN x n1).2.1 : Nat), .bool (edgesN x n1).2.2]) w (.returned (.tuple #[.int .i64 (f : Nat), .int .i64 (e : Nat), .bool o])) wr) := Lib.hid ⟨by rw [HE.out], HAL.out _ HB.out⟩
      go_wp2
      refine bodyPost_ret (v := .tuple #[.int .i64 (f : Nat), .int .i64 (e : Nat), .bool o]) (by simp [results, Try.results88, go_sem]; done) rfl ?_
      exact HFIN.out

set_option maxRecDepth 100000 in
set_option maxHeartbeats 4000000 in
theorem Spread_c {tg : Bool} {S : Nat → Prop} {w : World} {A0 A1 : Option Addr} {n0 c0 n1 c1 : Nat} {x : SlotsD}
    (h0 : Sl tg 4 boolE w S A0 n0 c0 x.live) (h1 : Sl tg 52 (slE tg 3 intE) w S A1 n1 c1 x.free) :
    Calls Try.prog 39 #[.agg #[.slice A0 n0 c0, .slice A1 n1 c1]] w (RetV (.tuple #[.int .i64 (if slotsOkB x = true then spreadX x else 0), .int .i64 (okErr (slotsOkB x))]) w) := by
  have HL0 := Lib.hid h0.len
  have HL1 := Lib.hid h1.len
  have hal : Below w.heap.size w (w.alloc (.cells #[.slice A0 n0 c0, .slice A1 n1 c1] 62)) := (by repeat' (first | (with_reducible exact Below.refl _ _) | (with_reducible refine Below.alloc ?_ ?_ _) | (with_reducible refine Below.drew ?_) | (with_reducible refine below_drewN ?_ _) | (with_reducible refine Below.setCell ?_ ?_ _) | (refine via ?_ (by with_reducible assumption) ?_) | (refine via ?_ (below_ext _ _) ?_) | go_size))
  have HMY := Lib.hid (slotsMay_c (h0.all hal) (h1.all hal))
  have H0 := Lib.hid (fun W hW => h0.all (w' := W) hW)
  have H1 := Lib.hid (fun W hW => h1.all (w' := W) hW)
  have hrow := heap_alloc_new w (.cells #[.slice A0 n0 c0, .slice A1 n1 c1] 62)
  have hz : w.heap.size < (w.alloc (.cells #[.slice A0 n0 c0, .slice A1 n1 c1] 62)).heap.size := by simp
  clear h0 h1
  have HOK := Lib.hid (@slotsOk_of x)
  generalize hv : (if slotsOkB x = true then spreadX x else 0) = v at *
  have HV := Lib.hid hv; clear hv
  generalize slotsOkB x = r at *
  go_enter Try.func39, Try.ntmps39
  go_upto_region 1 with (fail)
  generalize (w.alloc (.cells #[.slice A0 n0 c0, .slice A1 n1 c1] 62)) = W0 at *
  have p0 := (cell_of_row W0 w.heap.size 0 _ _ _ hrow).trans (show _ = some (Value.slice A0 n0 c0) from rfl)
  have p1 := (cell_of_row W0 w.heap.size 1 _ _ _ hrow).trans (show _ = some (Value.slice A1 n1 c1) from rfl)
  go_wp2_with fail
  refine HMY.out.mono ?_
  clear p0 p1 HMY
  rintro e w1 ⟨rfl, hb1⟩
  have HB1 := Lib.hid (hal.trans (hb1.mono (Nat.le_of_lt hz)))
  have hrow1 := (hb1.block _ hz).trans hrow
  have hz1 : w.heap.size < w1.heap.size := by have := hb1.size; omega
  clear hal hz hb1 hrow
  cases r with
  | false =>
    have HF : Hid (v = 0) := Lib.hid (HV.out.symm.trans (if_neg (by simp)))
    go_wp2
    go_ret2
    exact ⟨by rw [HF.out]; rfl, HB1.out⟩
  | true =>
    have hx := HOK.out rfl
    have p0 := (cell_of_row w1 w.heap.size 0 _ _ _ hrow1).trans (show _ = some (Value.slice A0 n0 c0) from rfl)
    have p1 := (cell_of_row w1 w.heap.size 1 _ _ _ hrow1).trans (show _ = some (Value.slice A1 n1 c1) from rfl)
    have hed := placeEdges_c hx (H0.out _ HB1.out) (H1.out _ HB1.out)
    have hsp : spreadX x = if (edgesN x x.live.length).2.2 = true then (lenF x (edgesN x x.live.length).2.1 : Int) - lenF x (edgesN x x.live.length).1 else 0 := rfl
    have hlt := edgesN_lt x x.live.length
    have hn10 : n1 = n0 := by have := hx.same; have := HL0.out; have := HL1.out; omega
    subst hn10
    rw [HL0.out] at hlt
    have h63 : Hid (∀ d, d < n1 → lenF x d ≤ 64) := Lib.hid (fun d hd => pigeon (hx.free _ (getD_mem (d := []) (by have := HL1.out; omega))))
    have hn12 : n1 ≤ 12 := by have := hx.most; have := HL0.out; omega
    clear hx
    rw [HL0.out] at hsp hed
    generalize edgesN x n1 = E at *
    obtain ⟨f, e, o⟩ := E
    have HSP := Lib.hid hsp; clear hsp
    go_wp2_with fail
    refine hed.mono ?_
    clear hed p0 p1
    rintro e2 w2 ⟨rfl, hb2⟩
    have HB2 := Lib.hid (HB1.out.trans (hb2.mono (Nat.le_of_lt hz1)))
    have hrow2 := (hb2.block _ hz1).trans hrow1
    have p1 := (cell_of_row w2 w.heap.size 1 _ _ _ hrow2).trans (show _ = some (Value.slice A1 n1 c1) from rfl)
    have hz2 : w.heap.size < w2.heap.size := by have := hb2.size; omega
    clear hb2 hrow1 hrow2
    cases o with
    | false =>
      have HF : Hid (v = 0) := Lib.hid (HV.out.symm.trans ((if_pos (by simp)).trans (HSP.out.trans (if_neg (by simp)))))
      go_wp2
      go_ret2
      exact ⟨by rw [HF.out]; rfl, HB2.out⟩
    | true =>
      obtain ⟨hf, he⟩ := hlt rfl
      have hf' : f < n1 := hf
      have he' : e < n1 := he
      obtain ⟨b1, o1, Af, nf, cf, rfl, _, hbl1, hf1, qf, _⟩ := (H1.out _ HB2.out).sl_at hf'
      obtain ⟨b1', o1', Ae, ne, ce, ee, _, _, he1, qe, _⟩ := (H1.out _ HB2.out).sl_at he'
      injection ee with ee; injection ee with ee1 ee2 _; subst ee1; subst ee2
      have hnf : lenF x f = nf := hf1.len
      have hne : lenF x e = ne := he1.len
      have hnf64 : nf ≤ 64 := by rw [← hnf]; exact h63.out f hf'
      have hne64 : ne ≤ 64 := by rw [← hne]; exact h63.out e he'
      have HF : Hid (v = (ne : Int) - nf) := Lib.hid (HV.out.symm.trans ((if_pos (by simp)).trans (HSP.out.trans ((if_pos rfl).trans (by rw [hne, hnf])))))
      clear hf1 he1 hnf hne hf he hlt
      go_wp2_with fail
      have hext := cell_ext w2
      refine region_ext (by kernel_rfl) (by kernel_rfl) ?_
      repeat (go_big_quiet_step (fail))
      refine wpQuiet_nil ?_
      rintro _ ⟨X, rfl⟩
      have HB3 := Lib.hid (HB2.out.trans ((below_ext w2 X).mono (Nat.le_of_lt hz2)))
      clear hext p1 qf qe
      generalize w2.ext X = w3 at *
      go_wp2
      go_ret2
      exact ⟨by rw [HF.out]; rfl, HB3.out⟩
end Go.Proofs.Ytjeecdoffoahkaa
