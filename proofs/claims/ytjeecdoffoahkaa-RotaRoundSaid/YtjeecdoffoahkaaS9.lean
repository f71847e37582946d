/- Slots on unlike disks are taken: the program's way, whole. -/
import Derived.Test.YtjeecdoffoahkaaS7
import Derived.Test.YtjeecdoffoahkaaS2
import Derived.Test.YtjeecdoffoahkaaB2
import Derived.Test.YtjeecdoffoahkaaS3
import Derived.StillTailTactics
-- from S8
namespace Go.Proofs.Ytjeecdoffoahkaa
open Go.RowKit Go.Silo

/-- How many slots of disk d are free. -/
def room (x : SlotsD) (d : Int) : Int := ((x.free.getD d.toNat []).length : Int)

set_option maxHeartbeats 2000000 in
theorem Some1_c {tg : Bool} {W : World} {S : Nat → Prop} {g3 g : Nat} {A1 : Option Addr} {n1 c1 : Nat} {x : SlotsD} {a b : Int} (hp : W.cell? ⟨g3, 0, none⟩ = some (.pointer (some ⟨g, 0, none⟩))) (hf : W.cell? ⟨g, 1, none⟩ = some (.slice A1 n1 c1))
    (h1 : Sl tg 52 (slE tg 3 intE) W S A1 n1 c1 x.free) (ha : 0 ≤ a ∧ a < n1) (hb : 0 ≤ b ∧ b < n1) :
    Calls Try.prog 168 #[.int .i64 a, .int .i64 b, .pointer (some ⟨g3, 0, none⟩)] W (RetV (.int .i64 (cmp3 (room x b) (room x a))) W) := by
  obtain ⟨a, rfl⟩ := Int.eq_ofNat_of_zero_le ha.1
  obtain ⟨b, rfl⟩ := Int.eq_ofNat_of_zero_le hb.1
  have ha' : a < n1 := by omega
  have hb' : b < n1 := by omega
  clear ha hb
  have hcap : n1 ≤ 9223372036854775807 := Nat.le_trans h1.le h1.cap
  obtain ⟨bb, off, Aa, na, ca, rfl, _, hbl, hla, hca, _⟩ := h1.sl_at ha'
  obtain ⟨bb', off', Ab, nb, cb, e, _, _, hlb, hcb, _⟩ := h1.sl_at hb'
  injection e with e; injection e with e1 e2 _; subst e1; subst e2
  have h3 := block_lt_of_cell hp
  have h4 := block_lt_of_cell hf
  have ea := hla.len
  have eb := hlb.len
  have hr : Hid (cmp3 (room x b) (room x a) = cmp3 (nb : Int) (na : Int)) := Lib.hid (by unfold room; simp only [Int.toNat_natCast]; rw [ea, eb])
  clear ea eb
  rw [hr.out]
  have hext := cell_ext W
  have hc := fun X => (Compare_c : Calls Try.prog 169 #[.int .i64 (nb : Int), .int .i64 (na : Int)] (W.ext X) _)
  have HC := Lib.hid hc; clear hc
  go_enter Try.func168, Try.ntmps168
  go_wp2
  refine region_ext (by kernel_rfl) (by kernel_rfl) ?_
  repeat (go_big_quiet_step ((go_at_call 169; exact RetV.ext (HC.out _))))
  refine wpQuiet_nil ?_
  rintro _ ⟨X, rfl⟩
  go_wp2
  go_ret
  exact ⟨rfl, (by repeat' (first | (with_reducible exact Below.refl _ _) | (with_reducible refine Below.alloc ?_ ?_ _) | (with_reducible refine Below.drew ?_) | (with_reducible refine below_drewN ?_ _) | (with_reducible refine Below.setCell ?_ ?_ _) | (refine via ?_ (by with_reducible assumption) ?_) | (refine via ?_ (below_ext _ _) ?_) | go_size))⟩
end Go.Proofs.Ytjeecdoffoahkaa
namespace Go.Proofs.Ytjeecdoffoahkaa
open Go.RowKit Go.Silo

/-- Which of the first k disks live and are not named. -/
def candTo (live : List Bool) (not : List Int) (k : Nat) : List Int := (upto k).filter (fun d => live.getD d.toNat false && !decide (d ∈ not))
theorem candTo_succ (live : List Bool) (not : List Int) (k : Nat) : candTo live not (k + 1) = candTo live not k ++ (if live.getD k false = true ∧ (k : Int) ∉ not then [(k : Int)] else []) := by
  unfold candTo
  rw [upto_snoc, List.filter_append]
  congr 1
  simp only [List.filter_cons, List.filter_nil, Int.toNat_natCast]
  by_cases h1 : live.getD k false = true <;> by_cases h2 : (k : Int) ∈ not <;> simp_all
theorem candTo_len (live : List Bool) (not : List Int) (k : Nat) : (candTo live not k).length ≤ k := by
  unfold candTo; exact Nat.le_trans (List.length_filter_le _ _) (by rw [upto_len]; exact Nat.le_refl _)
theorem candTo_lt {live : List Bool} {not : List Int} {k : Nat} {d : Int} (h : d ∈ candTo live not k) : 0 ≤ d ∧ d < k := by
  unfold candTo at h
  have := (List.mem_filter.1 h).1
  unfold upto at this
  simp at this
  obtain ⟨j, hj, rfl⟩ := this
  omega
def cands (x : SlotsD) (not : List Int) : List Int := candTo x.live not x.live.length
def withRoom (x : SlotsD) (l : List Int) : List Int := l.filter (fun d => decide (0 < room x d))
def chosen (x : SlotsD) (n : Nat) (not : List Int) : List Int := (sortBy (room x) (withRoom x (cands x not))).take n
def slotOf (x : SlotsD) (d : Int) : Slot := ⟨d, (x.free.getD d.toNat []).getD 0 0⟩
def tailAt (f : List (List Int)) (d : Int) : List (List Int) := f.set d.toNat (f.getD d.toNat []).tail
/-- The error of so many slots that are to be taken. -/
def takeErr (x : SlotsD) (n : Nat) (not : List Int) : Int := if (cands x not).length < n then 6 else if (withRoom x (cands x not)).length < n then 5 else 0
def takeL (x : SlotsD) (n : Nat) (not : List Int) : List Slot := (chosen x n not).map (slotOf x)
def takeX (x : SlotsD) (n : Nat) (not : List Int) : SlotsD := ⟨x.live, (chosen x n not).foldl tailAt x.free⟩

theorem insR_perm (key : Int → Int) (x : Int) (l : List Int) : (insR key x l).Perm (x :: l) := by
  induction l with
  | nil => exact .refl _
  | cons y ys ih =>
    rw [insR]
    split
    · exact (List.Perm.cons y ih).trans (List.Perm.swap x y ys)
    · exact .refl _
theorem sortR_perm (key : Int → Int) (l : List Int) : (sortR key l).Perm l := by
  have : ∀ (m : List Int) (R : List Int), (m.foldl (fun R x => insR key x R) R).Perm (R ++ m) := by
    intro m
    induction m with
    | nil => intro R; simp
    | cons x m ih =>
      intro R
      rw [List.foldl_cons]
      refine (ih _).trans ?_
      refine ((insR_perm key x R).append_right m).trans ?_
      exact List.perm_middle.symm
  simpa [sortR] using this l []
theorem sortBy_perm (key : Int → Int) (l : List Int) : (sortBy key l).Perm l := (List.reverse_perm _).trans (sortR_perm key l)
theorem upto_nodup (k : Nat) : (upto k).Nodup := by
  unfold upto
  exact List.Pairwise.map _ (fun a b h e => h (by omega)) List.nodup_range
theorem chosen_nodup (x : SlotsD) (n : Nat) (not : List Int) : (chosen x n not).Nodup := by
  unfold chosen
  refine List.Nodup.sublist (List.take_sublist _ _) ?_
  rw [(sortBy_perm _ _).nodup_iff]
  unfold withRoom cands candTo
  exact ((upto_nodup _).filter _).filter _
theorem chosen_mem {x : SlotsD} {n : Nat} {not : List Int} {d : Int} (h : d ∈ chosen x n not) : 0 ≤ d ∧ d < x.live.length ∧ 0 < room x d := by
  unfold chosen at h
  have h1 := (sortBy_perm _ _).mem_iff.1 (List.mem_of_mem_take h)
  unfold withRoom at h1
  obtain ⟨h2, h3⟩ := List.mem_filter.1 h1
  have := candTo_lt h2
  exact ⟨this.1, this.2, by simpa using h3⟩
theorem chosen_len {x : SlotsD} {n : Nat} {not : List Int} (h : takeErr x n not = 0) : (chosen x n not).length = n := by
  unfold takeErr at h
  split at h
  · cases h
  · split at h
    · cases h
    · unfold chosen
      rw [List.length_take, (sortBy_perm _ _).length_eq]
      omega
theorem tails_length (ds : List Int) (f : List (List Int)) : (ds.foldl tailAt f).length = f.length := by
  induction ds generalizing f with
  | nil => rfl
  | cons d ds ih => rw [List.foldl_cons, ih]; simp [tailAt]
theorem tails_other (ds : List Int) (f : List (List Int)) (d : Int) (hd : 0 ≤ d) (hds : ∀ e ∈ ds, 0 ≤ e) (hn : d ∉ ds) : (ds.foldl tailAt f).getD d.toNat [] = f.getD d.toNat [] := by
  induction ds generalizing f with
  | nil => rfl
  | cons e ds ih =>
    rw [List.foldl_cons, ih _ (fun a ha => hds a (by simp [ha])) (fun h => hn (by simp [h]))]
    have : e.toNat ≠ d.toNat := fun h => hn (by have := hds e (by simp); have : e = d := by omega
                                                subst this; simp)
    simp [tailAt, List.getD_eq_getElem?_getD, this]
theorem tails_at {x : SlotsD} {n : Nat} {not : List Int} {k : Nat} {d : Int} (h : (chosen x n not)[k]? = some d) : (((chosen x n not).take k).foldl tailAt x.free).getD d.toNat [] = x.free.getD d.toNat [] := by
  refine tails_other _ _ _ (chosen_mem (List.mem_of_getElem? h)).1 (fun e he => (chosen_mem (List.mem_of_mem_take he)).1) (fun hm => ?_)
  have hnd := chosen_nodup x n not
  obtain ⟨j, hj, e⟩ := List.mem_iff_getElem.1 hm
  rw [List.length_take] at hj
  rw [List.getElem_take] at e
  obtain ⟨hk, e2⟩ := List.getElem?_eq_some_iff.1 h
  exact (List.pairwise_iff_getElem.1 hnd) j k (by omega) hk (by omega) (e.trans e2.symm)

theorem _root_.Go.Silo.Sl.tagAt {α : Type} {T : TypeId} {E : Enc α} {w : World} {S : Nat → Prop} {b off n c : Nat} {xs : List α} (h : Sl true T E w S (some ⟨b, off, none⟩) n c xs) (hn : 0 < n) : ∃ q, w.shape? b = some (T, q) := by
  obtain ⟨b', off', e, _, _, ht, _⟩ := h.2.2.2 hn
  injection e with e; injection e with e1 e2 _; subst e1
  exact ht rfl
theorem _root_.Go.Silo.Own.flatS {T : TypeId} {w : World} {base : Nat} {S S' : Nat → Prop} {A : Option Addr} {n c : Nat} {xs : List Int} (h : Own T intE w base S A n c xs) : Own T intE w base S' A n c xs := by
  obtain ⟨cells, ho, hl, hk⟩ := h
  exact ⟨cells, ho, hl, hk⟩

/-- What Some leaves. -/
def SomePost (S : Nat → Prop) (w : World) (x : SlotsD) (n : Nat) (not : List Int) (A1 : Option Addr) (n1 c1 : Nat) (e : Ending) (w' : World) : Prop :=
  (takeErr x n not ≠ 0 ∧ e = .returned (.tuple #[.slice none 0 0, .int .i64 (takeErr x n not)]) ∧ Below w.heap.size w w') ∨
  (takeErr x n not = 0 ∧ ∃ A c, e = .returned (.tuple #[.slice A n c, .int .i64 0]) ∧ (takeL x n not).length = n ∧ Own 112 slotE w' w.heap.size (fun b => w.heap.size ≤ b) A n c (takeL x n not) ∧
    Sl true 52 (slE true 3 intE) w' S A1 n1 c1 (takeX x n not).free ∧ Turns S 52 w w')

set_option maxRecDepth 100000 in
set_option maxHeartbeats 8000000 in
theorem Some_c {tg : Bool} {T : TypeId} {w : World} {S S2 : Nat → Prop} {g : Nat} {A0 A1 A2 : Option Addr} {n0 c0 n1 c1 n2 c2 : Nat} {x : SlotsD} {not : List Int} {n : Nat}
    (hg : w.heap[g]? = some (.cells #[.slice A0 n0 c0, .slice A1 n1 c1] 62 (0, 0))) (h0 : Sl true 4 boolE w S A0 n0 c0 x.live) (h1 : Sl true 52 (slE true 3 intE) w S A1 n1 c1 x.free)
    (hnot : Sl tg T intE w S2 A2 n2 c2 not) (hn : 1 ≤ n) (hn0 : n0 ≤ 12) (hn1 : n1 = n0) :
    Calls Try.prog 136 #[.pointer (some ⟨g, 0, none⟩), .int .i64 (n : Int), .slice A2 n2 c2] w (SomePost S w x n not A1 n1 c1) := by
  subst hn1
  have HL0 := Lib.hid h0.len
  have HL1 := Lib.hid h1.len
  have hgl := (Array.getElem?_eq_some_iff.1 hg).1
  have hgc0 : w.cell? ⟨g, 0, none⟩ = some (.slice A0 n1 c0) := by rw [cell_of_row w g 0 _ _ _ hg]; rfl
  have hgc1 : w.cell? ⟨g, 1, none⟩ = some (.slice A1 n1 c1) := by rw [cell_of_row w g 1 _ _ _ hg]; rfl
  have HG := Lib.hid hg; clear hg
  obtain ⟨i0, hi, hz0, hz1, hz2⟩ := info_parts Try.info_Int
  obtain ⟨i1, hi1, hy0, hy1, hy2⟩ := info_parts Try.info_Slot
  have hgb : (g == w.heap.size) = false := by simp; omega
  go_enter Try.func136, Try.ntmps136
  go_wp2
  go_loopw [8, 9, 10, 11, 20] (fun v f _ _ i wr => ∃ k : Nat, ∃ A' m c', k ≤ n1 ∧ i = .int .i64 k ∧ f = .int .i64 ((candTo x.live not k).length : Nat) ∧ v = .slice A' m c' ∧
      Own 3 intE wr (w.heap.size + 1) (fun b => w.heap.size + 1 ≤ b) A' m c' (withRoom x (candTo x.live not k)) ∧ Below w.heap.size w wr ∧ wr.cell? ⟨w.heap.size, 0, none⟩ = some (.pointer (some ⟨g, 0, none⟩))) (fun _ _ _ _ i _ => n1 - (intOf i).toNat)
  case atStart => exact ⟨0, none, 0, 0, Nat.zero_le _, rfl, rfl, rfl, by simpa [candTo, upto, withRoom] using Own.nil_, (by repeat' (first | (with_reducible exact Below.refl _ _) | (with_reducible refine Below.alloc ?_ ?_ _) | (with_reducible refine Below.drew ?_) | (with_reducible refine below_drewN ?_ _) | (with_reducible refine Below.setCell ?_ ?_ _) | (refine via ?_ (by with_reducible assumption) ?_) | (refine via ?_ (below_ext _ _) ?_) | go_size)), by simp⟩
  case round =>
    obtain ⟨k, A', m, c', hk, rfl, rfl, rfl, hown, hB, hbox⟩ := hrel
    have hbs := hB.size
    have hboxl := block_lt_of_cell hbox
    have q0 := (hB.cell (p := ⟨g, 0, none⟩) hgl).trans hgc0
    have q1 := (hB.cell (p := ⟨g, 1, none⟩) hgl).trans hgc1
    by_cases hlt : k < n1
    · obtain ⟨b, off, rfl, hS, hbl, hc0, _⟩ := (h0.all hB).bool_at hlt
      obtain ⟨b1, off1, Aa, na, ca, rfl, hS1, hbl1, hla, hc1, _⟩ := (h1.all hB).sl_at hlt
      have hsucc := Lib.hid (candTo_succ x.live not k)
      have hroom : Hid (room x (k : Int) = (na : Int)) := Lib.hid (by unfold room; rw [Int.toNat_natCast, hla.len])
      have hmlen := Lib.hid hown.len
      have hml : m ≤ k := by have := hmlen.out; have := candTo_len x.live not k; have : (withRoom x (candTo x.live not k)).length ≤ (candTo x.live not k).length := List.length_filter_le _ _; omega
      have hcl := candTo_len x.live not k
      generalize hv : x.live.getD k false = v at *
      have HB := Lib.hid hB; clear hB
      cases v with
      | false =>
        have HF : Hid (candTo x.live not (k + 1) = candTo x.live not k) := Lib.hid (by rw [hsucc.out]; simp)
        clear hsucc
        go_wp2
        go_roundw
        case rel => exact ⟨k + 1, A', m, c', by omega, by go_num, by rw [HF.out], rfl, by rw [HF.out]; exact hown, HB.out, hbox⟩
        case measure => simp [intOf]; omega
      | true =>
        by_cases hin : (k : Int) ∈ not
        · have HF : Hid (candTo x.live not (k + 1) = candTo x.live not k) := Lib.hid (by rw [hsucc.out]; simp [hin])
          clear hsucc
          go_wp2_with (go_at_call 166; refine (Contains_int (x := (k : Int)) (hnot.all HB.out)).mono ?_; rintro e w2 ⟨rfl, hb2⟩; rw [decide_eq_true hin])
          go_roundw
          case rel => exact ⟨k + 1, A', m, c', by omega, by go_num, by rw [HF.out], rfl, by rw [HF.out]; exact hown.all hb2, via HB.out hb2 (Nat.le_refl _), (hb2.cell (p := ⟨w.heap.size, 0, none⟩) hboxl).trans hbox⟩
          case measure => simp [intOf]; omega
        · have HF : Hid (candTo x.live not (k + 1) = candTo x.live not k ++ [(k : Int)]) := Lib.hid (by rw [hsucc.out]; simp [hin])
          clear hsucc
          have hq := HB.out
          generalize hcc : (candTo x.live not k).length = cl at *
          have HCC := Lib.hid hcc; clear hcc
          clear hq
          go_wp2_with fail
          refine (Contains_int (x := (k : Int)) (hnot.all HB.out)).mono ?_
          rintro e w2 ⟨rfl, hb2⟩
          rw [decide_eq_false hin]
          have p0 := (hb2.cell (p := ⟨w.heap.size, 0, none⟩) hboxl).trans hbox
          have p1 := (hb2.cell (p := ⟨g, 1, none⟩) (show g < wr.heap.size by omega)).trans q1
          have p2 := (hb2.cell (p := ⟨b1, off1 + k, none⟩) hbl1).trans hc1
          have HB2 := Lib.hid hb2
          have hs2 := hb2.size
          clear hb2
          by_cases hr0 : 0 < na
          · have HW : Hid (withRoom x (candTo x.live not (k + 1)) = withRoom x (candTo x.live not k) ++ [(k : Int)]) := Lib.hid (by
              rw [HF.out]; unfold withRoom; rw [List.filter_append]; congr 1; simp [hroom.out]; omega)
            go_wp2_with (at_builtin; refine wpList_append1 rfl _ _ 52 rfl i0 (.int .i64 0) 8 Try.underlying52 hi hz0 hz1 hz2 rfl (by decide) rfl ((hown.all HB2.out).frame (Agree.alloc _ _ _) (by simp)) w2.heap.size 3 1 _ (k : Int) rfl (heap_alloc_new _ _) ⟨rfl, by constructor <;> omega⟩ (by omega) (by omega) (by simp; omega) ?_)
            intro A3 c3 w3 hown3 hg3 _
            go_wp2
            go_roundw
            case rel =>
              have hBa : Below w.heap.size w (w2.alloc (.cells #[.int .i64 (k : Int)] 3)) := (via HB.out HB2.out (Nat.le_refl _)).alloc (by omega) _
              refine ⟨k + 1, A3, m + 1, c3, by omega, by go_num, by rw [HF.out]; simp [HCC.out], rfl, by rw [HW.out]; exact hown3, hBa.grown hg3 (by simp; omega) (fun r hr => by have := (hown.lt r hr).1; omega), ?_⟩
              rw [World.cell?_of_block (w := w2) (a := ⟨w.heap.size, 0, none⟩)]
              · exact p0
              · exact (hg3.block _ (show w.heap.size < _ by simp; omega) (fun e => absurd (hown.lt _ e.symm).1 (by simp))).trans (Below.heap_alloc _ _ _ (show w.heap.size < _ by omega))
            case measure => simp [intOf]; omega
          · have HW : Hid (withRoom x (candTo x.live not (k + 1)) = withRoom x (candTo x.live not k)) := Lib.hid (by
              rw [HF.out]; unfold withRoom; rw [List.filter_append]; simp [hroom.out]; omega)
            go_wp2
            go_roundw
            case rel => exact ⟨k + 1, A', m, c', by omega, by go_num, by rw [HF.out]; simp [HCC.out], rfl, by rw [HW.out]; exact hown.all HB2.out, via HB.out HB2.out (Nat.le_refl _), p0⟩
            case measure => simp [intOf]; omega
    · have ek : k = x.live.length := by have := HL0.out; omega
      have HC1 : Hid (candTo x.live not k = cands x not) := Lib.hid (by rw [ek]; rfl)
      clear ek
      obtain rfl : k = n1 := by omega
      rw [HC1.out] at hown
      have hml := hown.len
      have hcl := candTo_len x.live not k
      rw [HC1.out] at hcl ⊢
      have HML := Lib.hid hml; clear hml
      have HB := Lib.hid hB; clear hB
      by_cases hfew : (cands x not).length < n
      · have HE : Hid (takeErr x n not = 6) := Lib.hid (by unfold takeErr; rw [if_pos hfew])
        generalize (cands x not).length = cl at *
        go_wp2
        go_ret2
        exact .inl ⟨by rw [HE.out]; decide, by rw [HE.out]; rfl, HB.out⟩
      · by_cases hfull : m < n
        · have HE : Hid (takeErr x n not = 5) := Lib.hid (by unfold takeErr; rw [if_neg hfew, if_pos (by rw [HML.out]; exact hfull)])
          generalize (cands x not).length = cl at *
          go_wp2
          go_ret2
          exact .inl ⟨by rw [HE.out]; decide, by rw [HE.out]; rfl, HB.out⟩
        · have HE : Hid (takeErr x n not = 0) := Lib.hid (by unfold takeErr; rw [if_neg hfew, if_neg (by rw [HML.out]; exact hfull)])
          have hm12 : m ≤ 12 := by have h1 := HML.out; have h2 : (withRoom x (cands x not)).length ≤ (cands x not).length := List.length_filter_le _ _; omega
          generalize hcc : (cands x not).length = cl at *
          clear hcc
          go_wp2_with fail
          refine (SortStable_c hown (by omega) (room x) ?_).mono ?_
          · intro W a b hgW ha hb
            have hlow : ∀ i, i < w.heap.size + 1 → W.heap[i]? = wr.heap[i]? := fun i hi => hgW.block i (by omega) (fun e => by have := (hown.lt _ e.symm).1; omega)
            have hin : ∀ d, d ∈ withRoom x (cands x not) → 0 ≤ d ∧ d < k := fun d hd => by
              have h1 := candTo_lt (List.mem_filter.1 hd).1
              have := HL0.out
              omega
            exact Some1_c ((World.cell?_of_block (hlow _ (show w.heap.size < _ by omega))).trans hbox) ((World.cell?_of_block (hlow _ (show g < _ by omega))).trans q1)
              ((((h1.lt_block).below HB.out (fun b hb _ => hb.2)).frame (fun i hi hlt => hlow i (by have := hi.2; omega)) hgW.size)) (hin a ha) (hin b hb)
          rintro e w3 ⟨rfl, hown3, hg3⟩
          have hlow : ∀ i, i < w.heap.size + 1 → w3.heap[i]? = wr.heap[i]? := fun i hi => hg3.block i (by omega) (fun e => by have := (hown.lt _ e.symm).1; omega)
          have b3 := (World.cell?_of_block (hlow _ (show w.heap.size < _ by omega))).trans hbox
          have g3 := (World.cell?_of_block (hlow _ (show g < _ by omega))).trans q1
          have hs3 := hg3.size
          have hB3 : Below w.heap.size w w3 := HB.out.grown hg3 hbs (fun r hr => by have := (hown.lt r hr).1; omega)
          have hf3 : Sl true 52 (slE true 3 intE) w3 (fun b => S b ∧ b < w.heap.size) A1 k c1 x.free := h1.lt_block.below hB3 (fun b hb _ => hb.2)
          have hch := chosen_len HE.out
          have HCH := Lib.hid hch; clear hch
          have hchk : ∀ j, j < n → Hid ((sortBy (room x) (withRoom x (cands x not))).getD j 0 = (chosen x n not).getD j 0) := fun j hj => Lib.hid (by unfold chosen; simp [List.getD_eq_getElem?_getD, hj])
          have HT3 : Hid (Turns S 52 w w3) := Lib.hid (.of_below hB3)
          have HLOW := Lib.hid hlow; clear hlow
          have HB3 := Lib.hid hB3; clear hB3
          have hmn : n ≤ m := by omega
          have hmc := hown3.le.1
          clear q0 q1 hbox hgc0 hgc1 hg3
          go_wp2
          go_loopw [12, 14, 64] (fun v _ i wr => ∃ j : Nat, ∃ A5 c5, j ≤ n ∧ i = .int .i64 j ∧ v = .slice A5 j c5 ∧ Own 112 slotE wr w.heap.size (fun b => w.heap.size ≤ b) A5 j c5 (((chosen x n not).take j).map (slotOf x)) ∧
              Sl true 52 (slE true 3 intE) wr (fun b => S b ∧ b < w.heap.size) A1 k c1 (((chosen x n not).take j).foldl tailAt x.free) ∧ Turns S 52 w wr ∧
              wr.cell? ⟨w.heap.size, 0, none⟩ = some (.pointer (some ⟨g, 0, none⟩)) ∧ wr.cell? ⟨g, 1, none⟩ = some (.slice A1 k c1) ∧ Own 3 intE wr (w.heap.size + 1) (fun b => w.heap.size + 1 ≤ b) A' m c' (sortBy (room x) (withRoom x (cands x not))) ∧ w3.heap.size ≤ wr.heap.size ∧ (∀ r, ablk A5 = some r → w3.heap.size ≤ r)) (fun _ _ i _ => n - (intOf i).toNat)
          case atStart => exact ⟨0, none, 0, Nat.zero_le _, rfl, rfl, by simpa using Own.nil_, by simpa using hf3, HT3.out, b3, g3, hown3, Nat.le_refl _, fun r hr => by cases hr⟩
          case round =>
            obtain ⟨j, A5, c5, hj, rfl, rfl, hownL, hfr, hT, hb0, hg1, hownD, hsz, hA5⟩ := hrel
            by_cases hltj : j < n
            · obtain ⟨gd, rfl, hgd, hgdl, gI, hdc, _⟩ := hownD.int_at (k := j) (by omega)
              rw [(hchk j hltj).out] at hdc gI
              have hjc : j < (chosen x n not).length := by rw [HCH.out]; exact hltj
              have hget : (chosen x n not)[j]? = some ((chosen x n not).getD j 0) := by rw [List.getD_eq_getElem?_getD, List.getElem?_eq_getElem hjc]; rfl
              have hmem := chosen_mem (List.mem_of_getElem? hget)
              have hcur := tails_at hget
              have hlen2 := hfr.len
              have htk := take_snoc_getD (d := (0 : Int)) hjc
              generalize hd : (chosen x n not).getD j 0 = d at *
              have HTK := Lib.hid htk; clear htk
              have HD := Lib.hid hd; clear hd
              obtain ⟨d, rfl⟩ := Int.eq_ofNat_of_zero_le hmem.1
              have hdk : d < k := by have := hmem.2.1; have := HL0.out; omega
              simp only [Int.toNat_natCast] at hcur
              obtain ⟨bf, off, Ar, nr, cr, rfl, hSf, hbfl, hrow, hrc, hrf⟩ := hfr.sl_at hdk
              rw [hcur] at hrow
              have hroom2 := hmem.2.2
              unfold room at hroom2
              rw [Int.toNat_natCast, hrow.len] at hroom2
              have hnr : 0 < nr := by omega
              obtain ⟨br, offr, rfl, _, hbrl, hI, hvc, _⟩ := hrow.int_at (k := 0) hnr
              rw [Nat.add_zero] at hvc
              have hgd3 := (hown3.lt gd rfl).2
              have hdI : I64 (d : Int) := ⟨by omega, by omega⟩
              have hbase : ∀ r, ablk A5 = some r → w3.heap.size ≤ r := hA5
              have hslot : slotOf x (d : Int) = ⟨(d : Int), (x.free.getD d []).getD 0 0⟩ := by unfold slotOf; rw [Int.toNat_natCast]
              have HSL := Lib.hid hslot; clear hslot
              generalize hval : (x.free.getD d []).getD 0 0 = v at *
              have HVAL := Lib.hid hval; clear hval
              have HBASE := Lib.hid hbase; clear hbase hA5
              have HT := Lib.hid hT; clear hT
              have hws := HB3.out.size
              have HCUR := Lib.hid hcur; clear hcur
              have hw3lt : bf < w3.heap.size := by have := hSf.2; omega
              go_wp2_with (at_builtin; refine wpList_append1 rfl _ _ 75 rfl i1 (.agg #[.int .i64 0, .int .i64 0]) 16 Try.underlying75 hi1 hy0 hy1 hy2 rfl (by decide) rfl (hownL.frame (Agree.alloc _ _ _) (by simp)) wr.heap.size 112 1 _ (slotOf x (d : Int)) rfl (heap_alloc_new _ _) (by rw [HSL.out]; exact ⟨rfl, hdI, hI⟩) (by omega) (by omega) (by simp; omega) ?_)
              intro A6 c6 w4 hown4 hg4 hat4
              have low4 : ∀ i, i < w3.heap.size → w4.heap[i]? = wr.heap[i]? := fun i hi => (hg4.block i (by simp; omega) (fun e => by have := HBASE.out i e.symm; omega)).trans (Below.heap_alloc _ _ _ (by omega))
              have r0 := (World.cell?_of_block (low4 _ (show w.heap.size < _ by omega))).trans hb0
              have r1 := (World.cell?_of_block (low4 _ (show g < _ by omega))).trans hg1
              have r2 := (World.cell?_of_block (low4 _ (show bf < _ from hw3lt))).trans hrc
              have r3 := (World.frozen?_of_block (low4 _ (show bf < _ from hw3lt))).trans hrf
              have s4 := hg4.size
              have s5 : wr.heap.size + 1 ≤ w4.heap.size := by simpa using s4
              have LOW4 := Lib.hid low4; clear low4
              have HG4 := Lib.hid hg4; clear hg4
              have HAT := Lib.hid hat4; clear hat4
              clear hb0 hg1 hrc hrf
              have hnc := hrow.le
              have hnr1 : (1 : Int) ≤ (nr : Int) := by omega
              have hn1' : 1 ≤ nr := hnr
              have key : Hid (∀ (t : Value), t = .slice (some (if cr = 1 then ⟨br, offr, none⟩ else ⟨br, offr + 1, none⟩)) (nr - 1) (cr - 1) →
                  Own 112 slotE (w4.setCell ⟨bf, off + d, none⟩ t).drew w.heap.size (fun b => w.heap.size ≤ b) A6 (j + 1) c6 (((chosen x n not).take (j + 1)).map (slotOf x)) ∧
                  Sl true 52 (slE true 3 intE) (w4.setCell ⟨bf, off + d, none⟩ t).drew (fun b => S b ∧ b < w.heap.size) (some ⟨bf, off, none⟩) k c1 (((chosen x n not).take (j + 1)).foldl tailAt x.free) ∧
                  Turns S 52 w (w4.setCell ⟨bf, off + d, none⟩ t).drew ∧
                  (w4.setCell ⟨bf, off + d, none⟩ t).drew.cell? ⟨w.heap.size, 0, none⟩ = some (.pointer (some ⟨g, 0, none⟩)) ∧ (w4.setCell ⟨bf, off + d, none⟩ t).drew.cell? ⟨g, 1, none⟩ = some (.slice (some ⟨bf, off, none⟩) k c1) ∧
                  Own 3 intE (w4.setCell ⟨bf, off + d, none⟩ t).drew (w.heap.size + 1) (fun b => w.heap.size + 1 ≤ b) (some ⟨gd, 0, none⟩) m c' (sortBy (room x) (withRoom x (cands x not))) ∧
                  w3.heap.size ≤ (w4.setCell ⟨bf, off + d, none⟩ t).drew.heap.size ∧ (∀ r, ablk A6 = some r → w3.heap.size ≤ r)) := Lib.hid (by
                intro t ht
                have hbfw : bf < w.heap.size := hSf.2
                have hfr4 := hfr.frame (w' := w4) (fun b hb _ => LOW4.out b (by have := hb.2; omega)) (by omega)
                have hrow4 := hrow.frame (w' := w4) (fun b hb _ => LOW4.out b (by have := hb.2; omega)) (by omega)
                obtain ⟨q, hq⟩ := Sl.tagAt hfr (by omega)
                obtain ⟨q4, hq4⟩ := Sl.tagAt hfr4 (by omega)
                have hbg : g ≠ bf := by
                  intro e
                  subst e
                  rw [HT.out.shape _ hgl, shape_of_cells HG.out] at hq
                  injection hq with hq; injection hq with hq _
                  exact absurd hq (by decide)
                have hT4 : Turns S 52 w w4 := (HT.out.alloc _).grown HG4.out (fun r hr => by have := HBASE.out r hr; omega)
                have htl := hrow4.tail hnr rfl
                have hset := hfr4.set1 rfl (Avoids.slE (intE_avoids _) (by decide)) hdk (v := t) (y := (x.free.getD d []).tail) ⟨_, _, _, by rw [ht], htl⟩
                have e1 : (chosen x n not).take (j + 1) = (chosen x n not).take j ++ [(d : Int)] := HTK.out
                have hcell : ∀ (p : Addr) (u : Value), p.block ≠ bf → w4.cell? p = some u → (w4.setCell ⟨bf, off + d, none⟩ t).drew.cell? p = some u := fun p u hp hu => (World.cell?_of_block (w' := (w4.setCell ⟨bf, off + d, none⟩ t).drew) (Below.heap_setCell w4 _ t _ hp)).trans hu
                refine ⟨?_, ?_, ?_, ?_, ?_, ?_, ?_, ?_⟩
                · rw [e1, List.map_append]
                  have : Own 112 slotE w4 w.heap.size (fun b => w.heap.size ≤ b) A6 (j + 1) c6 (((chosen x n not).take j).map (slotOf x) ++ [slotOf x (d : Int)]) := by simpa using hown4
                  refine this.frame (fun b hb _ => Below.heap_setCell w4 _ t b ?_) (by simp)
                  intro ebf
                  rw [show b = bf from ebf] at hb
                  rcases hb with hb | hb
                  · exact absurd (show w.heap.size ≤ bf from hb) (by omega)
                  · exact absurd (show w.heap.size ≤ bf from (this.lt _ hb.symm).1) (by omega)
                · rw [e1, List.foldl_append]
                  simp only [List.foldl_cons, List.foldl_nil]
                  rw [show ∀ F : List (List Int), tailAt F (d : Int) = F.set d (F.getD d []).tail from fun F => rfl, HCUR.out]
                  exact hset.frame (Agree.drew _ _) (Nat.le_refl _)
                · exact (hT4.setCell (p := ⟨bf, off + d, none⟩) hSf.1 hq4 t).drew
                · exact hcell _ _ (by simp; omega) r0
                · exact hcell _ _ hbg r1
                · have hgdb : ∀ b : Nat, (b = gd ∨ some b = ablk (some ⟨gd, 0, none⟩)) → b = gd := fun b hb => hb.elim id (fun h => by injection h)
                  have h4 := (hownD.flatS (S' := fun b => b = gd)).frame (w' := w4) (fun b hb _ => LOW4.out b (by rw [hgdb b hb]; exact hgd3)) (by omega)
                  exact ((h4.frame (fun b hb _ => Below.heap_setCell w4 ⟨bf, off + d, none⟩ t b (by rw [hgdb b hb]; show gd ≠ bf; omega)) (by simp)).frame (Agree.drew _ _) (Nat.le_refl _)).flatS
                · simp; omega
                · intro r hr
                  rcases HAT.out with h | h
                  · exact HBASE.out r (h ▸ hr)
                  · rw [h] at hr; injection hr with hr; omega)
              by_cases hcr : cr = 1
              · have key2 := Lib.hid (key.out _ (by rw [if_pos hcr]))
                clear key
                obtain rfl : nr = 1 := by omega
                subst hcr
                go_wp2
                go_still_tail 14, (by kernel_rfl)
                go_wp2
                go_round
                case rel =>
                  obtain ⟨k1, k2, k3, k4, k5, k6, k7, k8⟩ := key2.out
                  exact ⟨j + 1, A6, c6, by omega, by go_num, rfl, k1, k2, k3, k4, k5, k6, k7, k8⟩
                case measure => simp [intOf]; omega
              · have key2 := Lib.hid (key.out _ (by rw [if_neg hcr]))
                clear key
                go_wp2
                go_still_tail 14, (by kernel_rfl)
                go_wp2
                go_round
                case rel =>
                  obtain ⟨k1, k2, k3, k4, k5, k6, k7, k8⟩ := key2.out
                  exact ⟨j + 1, A6, c6, by omega, by go_num, rfl, k1, k2, k3, k4, k5, k6, k7, k8⟩
                case measure => simp [intOf]; omega
            · go_wp2
              go_ret2
              obtain rfl : j = n := by omega
              rw [List.take_of_length_le (by rw [HCH.out]; exact Nat.le_refl _)] at hownL hfr
              exact .inr ⟨HE.out, A5, c5, rfl, by unfold takeL; rw [List.length_map]; exact HCH.out, hownL, hfr.mono (fun b hb _ => hb.1), hT⟩
end Go.Proofs.Ytjeecdoffoahkaa
