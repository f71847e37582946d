/- Slots as a map's keys. -/
import Derived.Test.YtjeecdoffoahkaaQ1r
import Derived.Test.YtjeecdoffoahkaaS1r
import Derived.DeepKeys4
namespace Go.Silo
open Go Go.RowKit
open Go.Maps (Keyed)
/-- 'm[k]' at an operation whose guard holds. -/
theorem wpList_look_set_g {P : Program} {k e : TypeId} (w : World) {ops : Array Oper} {rest : List Oper} {o : Oper} {a : Act} {Q : Exit → Act → World → Prop}
    (hw : Region.wanted o (yielded ops a.tmps) = true) (m x : Operand) (t : TypeId) (hop : o.op = Op.lookup t m x false) (K : Keyed P k) (ht : P.underlying t = some (.map k e)) (he : P.underlying e = some .bool) (hz : (zeroValue e).run P w = .ok (.bool false) w) (b n : Nat) (L : List Value)
    (hm : a.eval m = .map (some b)) (hset : SetAt P k e w b n L) (key : Value) (kl : Lit) (hx : a.eval x = key) (hkey : keyOf P k key = some kl)
    (hK : ∀ x : Bool, (x = true ↔ key ∈ L) → wpList P ops Q rest (a.put o.dst (.bool x)) w) :
    wpList P ops Q (o :: rest) a w := by
  refine wpList_step fun K' hK' => ?_
  rw [if_pos hw]
  obtain ⟨c, hrun, hc⟩ := hset.look K ht he hz hkey
  unfold Oper.wp
  simp [execOp, hop, hm, hx, hrun, Result.andThen]
  exact hK' _ _ (hK c hc)
end Go.Silo
namespace Go.Proofs.Ytjeecdoffoahkaa
open Go.RowKit Go.Silo

theorem laidOutQ : laidOutB Try.prog = true := by kernel_rfl
theorem slot_row : (112 : TypeId) < Try.prog.types.size := of_decide_eq_true (by kernel_rfl)
theorem slot_wide : (match Try.prog.underlying 112 with | some (.array _ _) | some (.struct _) => true | _ => false) = true := by rw [Try.underlying112]
set_option maxRecDepth 1000000 in
theorem slot_law : WideMaps.KeyLaw Try.prog 112 := deep_law_laid laidOutQ (m := 2) (by omega) slot_row (by kernel_rfl) slot_wide
theorem slot_keyed : Maps.Keyed Try.prog 112 := Maps.Keyed.of_law slot_law
theorem slot_cells : Try.prog.cellsOf 112 = 2 := by kernel_rfl
theorem slot_kt : Try.prog.keyType 112 = true := by kernel_rfl
theorem slot_key {a b : Int} (ha : I64 a) (hb : I64 b) : ∃ kl, keyOf Try.prog 112 (.agg #[.int .i64 a, .int .i64 b]) = some kl := by
  have h1 : (Lit.int .i64 a).wf = true := by
    unfold I64 at ha
    simp [Lit.wf, IntKind.min, IntKind.max, IntKind.signed, IntKind.bits]; omega
  have h2 : (Lit.int .i64 b).wf = true := by
    unfold I64 at hb
    simp [Lit.wf, IntKind.min, IntKind.max, IntKind.signed, IntKind.bits]; omega
  obtain ⟨q, hq⟩ : ∃ q, Try.prog.types.size = q + 1 := ⟨Try.prog.types.size - 1, by have := (show (112 : Nat) < Try.prog.types.size from slot_row); omega⟩
  have hf : (Value.agg #[.int .i64 a, .int .i64 b]).formed Try.prog 112 = true := by simp [Value.formed, Try.underlying112, slot_cells]
  have hc1 : Try.prog.cellsOf 3 = 1 := by kernel_rfl
  unfold keyOf
  rw [Try.underlying112]
  simp only [slot_kt, hf, hq, Bool.true_and, if_true]
  simp [Program.keyLits, Value.cells, Try.underlying112, Try.underlying3, slot_cells, hc1, h1, h2]
end Go.Proofs.Ytjeecdoffoahkaa
