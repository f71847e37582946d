/- What fit's functions lean on: how many stripes a text takes; an append in a round. -/
import Derived.Test.YtfccghfcilccfaaR2
import Derived.Test.YtfccghfcilccfaaE1
namespace Go.Silo
open Go Go.RowKit

/-- 'append(s, x)' within a fence: one element, laid in a new block of its own by the operation ahead. -/
theorem wpListIn_append1 {F : Fence} {m : Nat} {P : Program} {α : Type} {T : TypeId} {E : Enc α} {w : World} {base : Nat} {S : Nat → Prop} {A : Option Addr} {n c : Nat} {xs : List α} {ops : Array Oper} {rest : List Oper} {o : Oper} {a : Act} {Q : Exit → Act → World → Prop} (hgd : o.guard = none) (s x : Operand) (t : TypeId)
    (ho : o.op = .call { callee := .builtin .append, args := #[s, x], argTypes := #[t, t] })
    (i : TypeInfo) (z : Value) (bytes : Nat) (ht : P.underlying t = some (.slice T)) (hi : P.info? T = some i) (hz : i.zero = some z)
    (hsize : i.size = E.sz) (hby : i.bytes = bytes) (hzs : z.cells.size = E.sz) (hsz : 0 < E.sz)
    (hs : a.eval s = .slice A n c) (hown : Silo.Own T E w base S A n c xs)
    (g : Nat) (T' : TypeId) (cx : Nat) (news : List Value) (y : α) (hx : a.eval x = .slice (some ⟨g, 0, none⟩) 1 cx) (hnews : w.heap[g]? = some (.cells news.toArray T' (0, 0)))
    (hk2 : E.R w (fun b => S b ∧ some b ≠ ablk A) news y)
    (h63 : n + 1 ≤ 9223372036854775807) (hbytes : (n + 1) * bytes ≤ 140737488355328) (hbase : base ≤ w.heap.size)
    (h : ∀ A' c' w', Silo.Own T E w' base S A' (n + 1) c' (xs ++ [y]) → w.grownBy w' (ablk A) → (ablk A' = ablk A ∨ ablk A' = some w.heap.size) → wpListIn F m P ops Q rest (a.put o.dst (.slice A' (n + 1) c')) w') :
    wpListIn F m P ops Q (o :: rest) a w := by
  refine wpListIn_plain hgd fun K hK' => ?_
  obtain ⟨cells, hrow, hlen, hk⟩ := hown
  have hc : ∀ j u, news[j]? = some u → w.cell? ((⟨g, 0, none⟩ : Addr).add j) = some u := fun j u hj => World.news_of_block hnews j u (by simpa using hj)
  obtain ⟨v', w', hr, hown', hgrow, _, hat⟩ := run_append_own_at (P := P) w base t o.type T i z E.sz bytes ht hi hz hsize hby hzs hsz (.slice A n c) n cells hrow ⟨g, 0, none⟩ 1 cx news (by rw [E.len hk2]; omega) hc (E.one hk2) (by unfold maxLen; omega) hbytes hbase
  rw [ownBlock_slice] at hgrow hat
  have hv : ∃ A' c', v' = .slice A' (n + 1) c' := by
    rcases hown'.2 with ⟨hv, h0⟩ | ⟨g, cap, cur, hv, _⟩
    · rw [h0]; exact ⟨none, 0, hv⟩
    · exact ⟨_, cap, hv⟩
  obtain ⟨A', c', rfl⟩ := hv
  rw [ownBlock_slice] at hat
  unfold Oper.wpIn
  refine ⟨?_, ?_⟩
  · simp [Oper.about, ho, resolve, Target.leads, Sem.run_pure]
  · rw [Oper.semAt_plain F _ _ (by rw [ho]; intro c hc'; cases hc')]
    simp [execOp, ho, resolve, invoke, builtin, hs, hx, hr, Result.andThen]
    exact hK' _ _ (h A' c' w' (Silo.Own.appended (ys := [y]) (m := 1) hrow hlen hk rfl (fun k z hz' => by
      match k, hz' with
      | 0, hz' => simp at hz'; subst hz'; simp only [Nat.zero_mul, List.drop_zero]; rw [List.take_of_length_le (by rw [E.len hk2]; omega)]; exact hk2) hown' hgrow hat) hgrow hat)
end Go.Silo
namespace Go.Proofs.Ytfccghfcilccfaa
open Go.RowKit Go.Silo

/-- How many stripes a text of so many bytes takes. -/
def manyX (s : Shape) (n : Int) : Nat := ((n + s.K * s.size - 1) / (s.K * s.size)).toNat

set_option maxRecDepth 100000 in
set_option maxHeartbeats 2000000 in
theorem Many_c {w : World} {s : Shape} {n : Int} (hs : shapeOk s = true) (h0 : 0 ≤ n) (h1 : n ≤ 100000) :
    Calls Try.prog 151 #[.agg #[.int .i64 s.K, .int .i64 s.M, .int .i64 s.size], .int .i64 n] w (RetV (.int .i64 (manyX s n : Int)) w) := by
  unfold shapeOk at hs
  have hd := of_decide_eq_true hs
  clear hs
  obtain ⟨k1, k2, _, _, s1, s2⟩ := hd
  have p1 : 1 ≤ s.K * s.size := by have := Int.mul_le_mul k1 s1 (by omega) (by omega); omega
  have p2 : s.K * s.size ≤ 960 := by have := Int.mul_le_mul k2 s2 (by omega) (by omega); omega
  have hq : (manyX s n : Int) = (n + s.K * s.size - 1) / (s.K * s.size) := by
    unfold manyX
    exact Int.toNat_of_nonneg (Int.ediv_nonneg (by omega) (by omega))
  have HQ := Lib.hid hq; clear hq
  go_enter Try.func151, Try.ntmps151
  go_wp2
  go_ret
  exact ⟨by rw [HQ.out]; rfl, (by repeat' (first | (with_reducible exact Below.refl _ _) | (with_reducible refine Below.alloc ?_ ?_ _) | (with_reducible refine Below.drew ?_) | (with_reducible refine below_drewN ?_ _) | (with_reducible refine Below.setCell ?_ ?_ _) | (refine via ?_ (by with_reducible assumption) ?_) | (refine via ?_ (below_ext _ _) ?_) | go_size))⟩
set_option maxRecDepth 100000 in
set_option maxHeartbeats 2000000 in
theorem refStripes6_c {w : World} {s : Shape} {n : Int} (hs : shapeOk s = true) (h0 : 0 ≤ n) (h1 : n ≤ 100000) :
    Calls Try.prog 91 #[.agg #[.int .i64 s.K, .int .i64 s.M, .int .i64 s.size], .int .i64 n] w (RetV (.int .i64 (manyX s n : Int)) w) := by
  unfold shapeOk at hs
  have hd := of_decide_eq_true hs
  clear hs
  obtain ⟨k1, k2, _, _, s1, s2⟩ := hd
  have p1 : 1 ≤ s.K * s.size := by have := Int.mul_le_mul k1 s1 (by omega) (by omega); omega
  have p2 : s.K * s.size ≤ 960 := by have := Int.mul_le_mul k2 s2 (by omega) (by omega); omega
  have hq : (manyX s n : Int) = (n + s.K * s.size - 1) / (s.K * s.size) := by
    unfold manyX
    exact Int.toNat_of_nonneg (Int.ediv_nonneg (by omega) (by omega))
  have HQ := Lib.hid hq; clear hq
  go_enter Try.func91, Try.ntmps91
  go_wp2
  go_ret
  exact ⟨by rw [HQ.out]; rfl, (by repeat' (first | (with_reducible exact Below.refl _ _) | (with_reducible refine Below.alloc ?_ ?_ _) | (with_reducible refine Below.drew ?_) | (with_reducible refine below_drewN ?_ _) | (with_reducible refine Below.setCell ?_ ?_ _) | (refine via ?_ (by with_reducible assumption) ?_) | (refine via ?_ (below_ext _ _) ?_) | go_size))⟩
end Go.Proofs.Ytfccghfcilccfaa
