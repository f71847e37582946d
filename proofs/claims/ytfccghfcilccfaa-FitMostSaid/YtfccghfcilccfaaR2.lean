/- fit.stripes: the slots of one stripe behind the other, for whoever ranges over it. -/
import Derived.Test.YtfccghfcilccfaaR1
import Derived.Test.YtfccghfcilccfaaS9
import Derived.OwnWalkIn
import Derived.TacticsInMore
import Derived.LoopNIn
import Derived.LoopIn
import Derived.WalkKit
import Derived.Shelf.Abstract
import Derived.Shelf.RegionOpen
namespace Go.Silo
open Go Go.RowKit

theorem exists_least {p : Nat → Prop} : (∃ m, p m) → ∃ m, p m ∧ ∀ k, p k → m ≤ k := by
  rintro ⟨m, hm⟩
  induction m using Nat.strongRecOn with
  | _ m ih =>
    by_cases h : ∃ k, k < m ∧ p k
    · obtain ⟨k, hk, hp⟩ := h
      exact ih k hk hp
    · exact ⟨m, hm, fun k hk => by
        rcases Nat.lt_or_ge k m with hlt | hge
        · exact absurd ⟨k, hlt, hk⟩ h
        · exact hge⟩
open Classical in
/-- The least number that a relation grants a world: a loop's measure that stands in no slot. -/
noncomputable def ghostM (R : Nat → World → Prop) (W : World) : Nat := if h : ∃ m, R m W then Classical.choose (exists_least h) else 0
theorem ghost_at {R : Nat → World → Prop} {W : World} (h : ∃ m, R m W) : ∃ m, R m W ∧ ghostM R W = m := by
  refine ⟨_, (Classical.choose_spec (exists_least h)).1, ?_⟩
  unfold ghostM
  rw [dif_pos h]
theorem ghost_le {R : Nat → World → Prop} {W : World} {m : Nat} (h : R m W) : ghostM R W ≤ m := by
  unfold ghostM
  rw [dif_pos ⟨m, h⟩]
  exact (Classical.choose_spec (exists_least ⟨m, h⟩)).2 m h
end Go.Silo
namespace Go.Proofs.Ytfccghfcilccfaa
open Go.RowKit Go.Silo Go.Shelf
attribute [local go_sem] Oper.semAt_some

/-- What slots are behind one stripe, as long as there are some. -/
def stepX (x : SlotsD) (k : Nat) : SlotsD := if takeErr x k [] = 0 then takeX x k [] else x
def turnsX (x : SlotsD) (k : Nat) : Nat → SlotsD
  | 0 => x
  | j + 1 => stepX (turnsX x k j) k

/-- The slots that are ranged over, in their box. -/
structure XS (S : Nat → Prop) (g : Nat) (A0 : Option Addr) (n0 c0 : Nat) (A1 : Option Addr) (n1 c1 : Nat) (x : SlotsD) (W : World) : Prop where
  row : W.heap[g]? = some (.cells #[.slice A0 n0 c0, .slice A1 n1 c1] 62 (0, 0))
  live : Sl true 4 boolE W S A0 n0 c0 x.live
  free : Sl true 52 (slE true 3 intE) W S A1 n1 c1 x.free

section
variable {S : Nat → Prop} {g k : Nat} {A0 A1 : Option Addr} {n0 c0 n1 c1 : Nat} {x : SlotsD} {W W' : World}
theorem XS.all (h : XS S g A0 n0 c0 A1 n1 c1 x W) (hb : Below W.heap.size W W') : XS S g A0 n0 c0 A1 n1 c1 x W' :=
  ⟨(hb.block _ (Array.getElem?_eq_some_iff.1 h.row).1).trans h.row, h.live.all hb, h.free.all hb⟩
theorem XS.keep {S' : Nat → Prop} (h : XS S g A0 n0 c0 A1 n1 c1 x W) (hk : Keeps S' W W') (hS : ∀ b, S b ∨ b = g → S' b) : XS S g A0 n0 c0 A1 n1 c1 x W' :=
  have hk2 : Keeps S W W' := ⟨hk.1.mono (fun b hb _ => hS b (.inl hb)), hk.2⟩
  ⟨(hk.1 g (hS g (.inr rfl)) (Array.getElem?_eq_some_iff.1 h.row).1).trans h.row, h.live.keep hk2, h.free.keep hk2⟩
/-- What Some leaves is the next state. -/
theorem XS.step {e : Ending} (h : XS S g A0 n0 c0 A1 n1 c1 x W) (hp : SomePost S W x k [] A1 n1 c1 e W') :
    XS S g A0 n0 c0 A1 n1 c1 (stepX x k) W' ∧ Turns S 52 W W' := by
  rcases hp with ⟨he, _, hb⟩ | ⟨he, A, c, _, _, _, hf, ht⟩
  · unfold stepX
    rw [if_neg he]
    exact ⟨h.all hb, .of_below hb⟩
  · unfold stepX
    rw [if_pos he]
    exact ⟨⟨ht.heap h.row (by decide), ht.sl (boolE_avoids _) (by decide) h.live, hf⟩, ht⟩
end
/-- What is handed to a round. -/
def Handed (x : SlotsD) (k : Nat) (B : Nat) (pre : List (Value × Value)) (v : Value × Value) (W : World) : Prop :=
  (takeErr (turnsX x k pre.length) k [] ≠ 0 ∧ v = (.slice none 0 0, .int .i64 (takeErr (turnsX x k pre.length) k []))) ∨
  (takeErr (turnsX x k pre.length) k [] = 0 ∧ ∃ A c, v = (.slice A k c, .int .i64 0) ∧ (takeL (turnsX x k pre.length) k []).length = k ∧ Silo.Own 104 slotE W B (fun b => B ≤ b) A k c (takeL (turnsX x k pre.length) k []))

set_option maxRecDepth 100000 in
set_option maxHeartbeats 2000000 in
theorem stripes_c {w : World} {s : Shape} {p : Option Addr} :
    Calls Try.prog 114 #[.agg #[.int .i64 s.K, .int .i64 s.M, .int .i64 s.size], .pointer p] w (fun e w' => e = .returned (.func (.func 161) #[] #[.pointer (some ⟨w.heap.size + 1, 0, none⟩), .pointer (some ⟨w.heap.size, 0, none⟩)]) ∧ w' = (w.alloc (.cells #[.int .i64 s.K, .int .i64 s.M, .int .i64 s.size] 23)).alloc (.cells #[.pointer p] 165)) := by
  go_enter Try.func114, Try.ntmps114
  go_wp2
  go_ret
  exact ⟨rfl, rfl⟩

set_option maxRecDepth 100000 in
set_option maxHeartbeats 4000000 in
/-- The iterator: whatever the rounds do that keep its slots, each is handed the next stripe's. -/
theorem stripes1_in {n : Nat} {S : Nat → Prop} {bs bp g k N : Nat} {s : Shape} {x : SlotsD} {A0 A1 : Option Addr} {n0 c0 n1 c1 : Nat} (l : Nat) (J Jx : List (Value × Value) → World → Prop) (W : World)
    (hk : 1 ≤ k) (hkk : s.K + s.M = (k : Int)) (hkb : k ≤ 1000) (hn0 : n0 ≤ 12) (hn1 : n1 = n0)
    (hbs : W.heap[bs]? = some (.cells #[.int .i64 s.K, .int .i64 s.M, .int .i64 s.size] 23 (0, 0))) (hbp : W.heap[bp]? = some (.cells #[.pointer (some ⟨g, 0, none⟩)] 165 (0, 0)))
    (hX : XS S g A0 n0 c0 A1 n1 c1 x W) (hJS : ∀ pre A B, J pre A → Turns S 52 A B → J pre B) (hJN : ∀ pre A, J pre A → pre.length < N)
    (hY : ∀ pre v A, J pre A → (∃ B, W.heap.size ≤ B ∧ Handed x k B pre v A) → XS S g A0 n0 c0 A1 n1 c1 (turnsX x k (pre.length + 1)) A → YieldAt Fence.wide (n - 1) Try.prog l #[v.1, v.2] A fun e B => (e = .returned (.bool true) ∧ J (pre ++ [v]) B ∧ Keeps (fun b => S b ∨ b = g ∨ b = bs ∨ b = bp) A B) ∨ (e = .returned (.bool false) ∧ Jx (pre ++ [v]) B))
    (h0 : J [] W) :
    CallsIn Fence.wide n Try.prog 161 (#[.func (.yield l) #[] #[]] ++ #[.pointer (some ⟨bp, 0, none⟩), .pointer (some ⟨bs, 0, none⟩)]) W (fun e B => (∃ v, e = .returned v) ∧ ∃ pre, Jx pre B) := by
  refine callsIn_of_wp Try.func161 rfl trivial ?_ rfl
  simp only [Try.ntmps161, List.size_toArray, List.length_cons, List.length_nil, Nat.reduceAdd, Nat.reduceSub, Array.replicate_succ, Array.replicate_zero, List.push_toArray, List.append_toArray, List.cons_append, List.nil_append]
  gi_wp2
  obtain ⟨RST, hRST⟩ : ∃ RST : Nat → World → Prop, RST = fun m wr => ∃ pre : List (Value × Value), pre.length + m = N ∧ J pre wr ∧ XS S g A0 n0 c0 A1 n1 c1 (turnsX x k pre.length) wr ∧
      wr.heap[bs]? = some (.cells #[.int .i64 s.K, .int .i64 s.M, .int .i64 s.size] 23 (0, 0)) ∧ wr.heap[bp]? = some (.cells #[.pointer (some ⟨g, 0, none⟩)] 165 (0, 0)) ∧ W.heap.size ≤ wr.heap.size := ⟨_, rfl⟩
  have HR := Lib.hid hRST; clear hRST
  gi_loopw [] (fun wr => ∃ m, RST m wr) (fun wr => ghostM RST wr)
  case atStart => exact ⟨N - 0, by rw [HR.out]; exact ⟨[], by have := hJN [] W h0; simp, h0, hX, hbs, hbp, Nat.le_refl _⟩⟩
  case round =>
    obtain ⟨m, hm, hmu⟩ := ghost_at hrel
    have HMU := Lib.hid hmu; clear hmu hrel
    rw [HR.out] at hm
    obtain ⟨pre, hmN, hj, hx, r1, r2, hsz⟩ := hm
    have hlt := hJN pre wr hj
    have HS := Lib.hid (Some_c (w := wr) (S := S) (S2 := fun _ => True) (tg := true) (T := 3) (g := g) (A2 := none) (n2 := 0) (c2 := 0) (x := turnsX x k pre.length) (not := []) (n := k) hx.row hx.live hx.free (Sl.nil_ (by decide)) hk hn0 hn1)
    have z0 := cell_of_row _ _ 0 _ _ _ r1
    have z1 := cell_of_row _ _ 1 _ _ _ r1
    have z2 := cell_of_row _ _ 0 _ _ _ r2
    gi_wp2_with fail
    refine ⟨trivial, (fun h => absurd h (by decide)), (callsIn_wide.2 HS.out).mono ?_⟩
    clear HS z0 z1 z2
    rintro e w2 hp
    obtain ⟨hx2, ht⟩ := hx.step hp
    have hj2 := hJS pre wr w2 hj ht
    have q1 := ht.heap r1 (by decide)
    have q2 := ht.heap r2 (by decide)
    have hs2 := Nat.le_trans hsz ht.size
    have HX2 := Lib.hid (show XS S g A0 n0 c0 A1 n1 c1 (turnsX x k (pre.length + 1)) w2 from hx2)
    have NEXT := Lib.hid (fun (v : Value × Value) (W' : World) (hJ' : J (pre ++ [v]) W') (hk' : Keeps (fun b => S b ∨ b = g ∨ b = bs ∨ b = bp) w2 W') => (show RST (m - 1) W' from by
      rw [HR.out]
      refine ⟨pre ++ [v], by simp; omega, hJ', ?_, ?_, ?_, Nat.le_trans hs2 hk'.2⟩
      · rw [List.length_append]
        exact HX2.out.keep hk' (fun b hb => hb.imp id .inl)
      · exact (hk'.1 bs (.inr (.inr (.inl rfl))) (Array.getElem?_eq_some_iff.1 q1).1).trans q1
      · exact (hk'.1 bp (.inr (.inr (.inr rfl))) (Array.getElem?_eq_some_iff.1 q2).1).trans q2))
    clear hx hx2 r1 r2 hj
    rcases hp with ⟨he, rfl, hb⟩ | ⟨he, A, c, rfl, hl, ho, _, _⟩
    · obtain ⟨fn, tmps, assign, body, hy, hR⟩ := hY pre _ w2 hj2 ⟨wr.heap.size, hsz, .inl ⟨he, rfl⟩⟩ HX2.out
      dsimp only at hy
      clear ht q1 q2 hb he
      gi_wp2
      refine ⟨(fun h => absurd h (by decide)), hR.mono ?_⟩
      rintro e W3 (⟨rfl, hJ3, hk3⟩ | ⟨rfl, hJx3⟩)
      · gi_wp2
        go_roundw
        case rel => exact ⟨_, NEXT.out _ _ hJ3 hk3⟩
        case measure => rw [HMU.out]; exact Nat.lt_of_le_of_lt (ghost_le (NEXT.out _ _ hJ3 hk3)) (by omega)
      · gi_wp2
        refine bodyPost_ret (results_none rfl _ _ _) rfl ?_
        exact ⟨⟨_, rfl⟩, _, hJx3⟩
    · obtain ⟨fn, tmps, assign, body, hy, hR⟩ := hY pre _ w2 hj2 ⟨wr.heap.size, hsz, .inr ⟨he, A, c, rfl, hl, ho⟩⟩ HX2.out
      dsimp only at hy
      clear ht q1 q2 hl ho he
      gi_wp2
      refine ⟨(fun h => absurd h (by decide)), hR.mono ?_⟩
      rintro e W3 (⟨rfl, hJ3, hk3⟩ | ⟨rfl, hJx3⟩)
      · gi_wp2
        go_roundw
        case rel => exact ⟨_, NEXT.out _ _ hJ3 hk3⟩
        case measure => rw [HMU.out]; exact Nat.lt_of_le_of_lt (ghost_le (NEXT.out _ _ hJ3 hk3)) (by omega)
      · gi_wp2
        refine bodyPost_ret (results_none rfl _ _ _) rfl ?_
        exact ⟨⟨_, rfl⟩, _, hJx3⟩
end Go.Proofs.Ytfccghfcilccfaa
