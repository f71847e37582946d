/- Slots as a map's keys. -/
import Derived.Test.YtipecejghioicaaBaser
import Derived.Maps.OwnSet
import Derived.Test.YtipecejghioicaaS3r
import Derived.DeepKeys4
-- from Q1r
namespace Go.Silo
open Go Go.RowKit
open Go.Maps (Keyed)

theorem plainElem_bool_inv {H : Type} {P : Program} {e : TypeId} (he : P.underlying e = some .bool) {v : Value} {z : DataW H × List MemPlace} (h : plainElem P e v = some z) : ∃ x, v = .bool x ∧ z = (.lit (.bool x), []) := by
  unfold plainElem at h
  rw [he] at h
  cases v <;> simp at h
  subst h
  exact ⟨_, rfl, rfl⟩

/-- Block b is a map of at most n entries, in which just the keys of L are true. -/
def SetAt (P : Program) (k e : TypeId) (w : World) (b n : Nat) (L : List Value) : Prop :=
  ∃ D : DataW Unit, w.ownsMap P k (plainElem P e) b n D ∧ ∀ v kl, keyOf P k v = some kl → ∃ x : Bool, D.atKey kl (.lit (.bool false)) = .lit (.bool x) ∧ (x = true ↔ v ∈ L)
section
variable {P : Program} {k e t : TypeId} {w w' : World} {b n : Nat} {L : List Value}
theorem SetAt.made : SetAt P k e (w.alloc (.map #[] 0)) w.heap.size 0 [] := ⟨.map [], World.ownsMap_made _ _ _ _, fun _ _ _ => ⟨false, rfl, by simp⟩⟩
theorem SetAt.lt (h : SetAt P k e w b n L) : b < w.heap.size := by obtain ⟨D, h, _⟩ := h; exact h.lt
theorem SetAt.block (h : SetAt P k e w b n L) (hb : w'.heap[b]? = w.heap[b]?) : SetAt P k e w' b n L := by
  obtain ⟨D, ⟨es, clock, h1, h2⟩, hx⟩ := h
  exact ⟨D, ⟨es, clock, hb.trans h1, h2⟩, hx⟩
theorem SetAt.all (h : SetAt P k e w b n L) (hb : Below w.heap.size w w') : SetAt P k e w' b n L := h.block (hb.block _ h.lt)
theorem SetAt.mono (h : SetAt P k e w b n L) {n' : Nat} (hn : n ≤ n') : SetAt P k e w b n' L := by
  obtain ⟨D, h, hx⟩ := h
  exact ⟨D, h.mono hn, hx⟩
/-- 'm[k]'. -/
theorem SetAt.look (h : SetAt P k e w b n L) (K : Keyed P k) (ht : P.underlying t = some (.map k e)) (he : P.underlying e = some .bool) (hz : (zeroValue e).run P w = .ok (.bool false) w) {key : Value} {kl : Lit} (hkey : keyOf P k key = some kl) :
    ∃ x : Bool, (Instr.lookup t (.map (some b)) key false).run P w = .ok (.bool x) w ∧ (x = true ↔ key ∈ L) := by
  obtain ⟨D, h, hx⟩ := h
  obtain ⟨v, ps, hrun, hv⟩ := h.lookup K ht hz (plainElem_bool he false) hkey
  obtain ⟨x, rfl, hz'⟩ := plainElem_bool_inv he hv
  obtain ⟨x', hx1, hx2⟩ := hx key kl hkey
  simp only [Prod.mk.injEq] at hz'
  rw [hx1] at hz'
  have hxx : x' = x := by have := hz'.1; simpa using this
  subst hxx
  exact ⟨x', hrun, hx2⟩
/-- 'm[k] = true'. -/
theorem SetAt.put (h : SetAt P k e w b n L) (K : Keyed P k) (ht : P.underlying t = some (.map k e)) (he : P.underlying e = some .bool) (hn : n < maxLen) {key : Value} {kl : Lit} (hkey : keyOf P k key = some kl) :
    ∃ w', (Instr.mapUpdate t (.map (some b)) key (.bool true)).run P w = .ok () w' ∧ SetAt P k e w' b (n + 1) (L ++ [key]) ∧ w.grownBy w' (some b) := by
  obtain ⟨D, h, hx⟩ := h
  obtain ⟨w', hrun, hown, hg⟩ := h.update K ht hn hkey (plainElem_bool he true)
  refine ⟨w', hrun, ⟨_, hown, fun v kl' hv => ?_⟩, hg⟩
  by_cases hkk : kl' = kl
  · subst hkk
    obtain rfl := K.inj hv hkey
    exact ⟨true, Maps.atKey_put_same h.isMap (K.key hkey) _ _, by simp⟩
  · obtain ⟨x, h1, h2⟩ := hx v kl' hv
    refine ⟨x, (Maps.atKey_put_other hkk _ _).trans h1, ?_⟩
    rw [h2]
    have hne : v ≠ key := fun e => by subst e; rw [hkey] at hv; injection hv with hv; exact hkk hv.symm
    simp [hne]
end
/-- 'm[k]' at the operation. -/
theorem wpList_look_set {P : Program} {k e : TypeId} (w : World) {ops : Array Oper} {rest : List Oper} {o : Oper} {a : Act} {Q : Exit → Act → World → Prop}
    (hg : o.guard = none) (m x : Operand) (t : TypeId) (hop : o.op = Op.lookup t m x false) (K : Keyed P k) (ht : P.underlying t = some (.map k e)) (he : P.underlying e = some .bool) (hz : (zeroValue e).run P w = .ok (.bool false) w) (b n : Nat) (L : List Value)
    (hm : a.eval m = .map (some b)) (hset : SetAt P k e w b n L) (key : Value) (kl : Lit) (hx : a.eval x = key) (hkey : keyOf P k key = some kl)
    (hK : ∀ x : Bool, (x = true ↔ key ∈ L) → wpList P ops Q rest (a.put o.dst (.bool x)) w) :
    wpList P ops Q (o :: rest) a w := by
  refine wpList_plain hg fun K' hK' => ?_
  obtain ⟨c, hrun, hc⟩ := hset.look K ht he hz hkey
  unfold Oper.wp
  simp [execOp, hop, hm, hx, hrun, Result.andThen]
  exact hK' _ _ (hK c hc)
/-- 'm[k] = true' at the operation. -/
theorem wpList_put_set {P : Program} {k e : TypeId} (w : World) {ops : Array Oper} {rest : List Oper} {o : Oper} {a : Act} {Q : Exit → Act → World → Prop}
    (hg : o.guard = none) (m x v : Operand) (t : TypeId) (hop : o.op = Op.mapUpdate t m x v) (K : Keyed P k) (ht : P.underlying t = some (.map k e)) (he : P.underlying e = some .bool) (b n : Nat) (L : List Value)
    (hm : a.eval m = .map (some b)) (hset : SetAt P k e w b n L) (hn : n < maxLen) (key : Value) (kl : Lit) (hx : a.eval x = key) (hv : a.eval v = .bool true) (hkey : keyOf P k key = some kl)
    (hK : ∀ w', SetAt P k e w' b (n + 1) (L ++ [key]) → w.grownBy w' (some b) → wpList P ops Q rest (a.put o.dst undef) w') :
    wpList P ops Q (o :: rest) a w := by
  refine wpList_plain hg fun K' hK' => ?_
  obtain ⟨w', hrun, r1, r2⟩ := hset.put K ht he hn hkey
  unfold Oper.wp
  simp [execOp, hop, hm, hx, hv, hrun, Result.andThen]
  exact hK' _ _ (hK w' r1 r2)
end Go.Silo
namespace Go.Silo
open Go Go.RowKit
open Go.Maps (Keyed)
/-- 'm[k]' at an operation whose guard holds. -/
theorem wpList_look_set_g {P : Program} {k e : TypeId} (w : World) {ops : Array Oper} {rest : List Oper} {o : Oper} {a : Act} {Q : Exit → Act → World → Prop}
    (hw : Region.wanted o (yielded ops a.tmps) = true) (m x : Operand) (t : TypeId) (hop : o.op = Op.lookup t m x false) (K : Keyed P k) (ht : P.underlying t = some (.map k e)) (he : P.underlying e = some .bool) (hz : (zeroValue e).run P w = .ok (.bool false) w) (b n : Nat) (L : List Value)
    (hm : a.eval m = .map (some b)) (hset : SetAt P k e w b n L) (key : Value) (kl : Lit) (hx : a.eval x = key) (hkey : keyOf P k key = some kl)
    (hK : ∀ x : Bool, (x = true ↔ key ∈ L) → wpList P ops Q rest (a.put o.dst (.bool x)) w) :
    wpList P ops Q (o :: rest) a w := by
  refine wpList_step fun K' hK' => ?_
  rw [if_pos hw]
  obtain ⟨c, hrun, hc⟩ := hset.look K ht he hz hkey
  unfold Oper.wp
  simp [execOp, hop, hm, hx, hrun, Result.andThen]
  exact hK' _ _ (hK c hc)
end Go.Silo
namespace Go.Proofs.Ytipecejghioicaa
open Go.RowKit Go.Silo

theorem laidOutQ : laidOutB Try.prog = true := by kernel_rfl
theorem slot_row : (67 : TypeId) < Try.prog.types.size := of_decide_eq_true (by kernel_rfl)
theorem slot_wide : (match Try.prog.underlying 67 with | some (.array _ _) | some (.struct _) => true | _ => false) = true := by rw [Try.underlying67]
set_option maxRecDepth 1000000 in
theorem slot_law : WideMaps.KeyLaw Try.prog 67 := deep_law_laid laidOutQ (m := 2) (by omega) slot_row (by kernel_rfl) slot_wide
theorem slot_keyed : Maps.Keyed Try.prog 67 := Maps.Keyed.of_law slot_law
theorem slot_cells : Try.prog.cellsOf 67 = 2 := by kernel_rfl
theorem slot_kt : Try.prog.keyType 67 = true := by kernel_rfl
theorem slot_key {a b : Int} (ha : I64 a) (hb : I64 b) : ∃ kl, keyOf Try.prog 67 (.agg #[.int .i64 a, .int .i64 b]) = some kl := by
  have h1 : (Lit.int .i64 a).wf = true := by
    unfold I64 at ha
    simp [Lit.wf, IntKind.min, IntKind.max, IntKind.signed, IntKind.bits]; omega
  have h2 : (Lit.int .i64 b).wf = true := by
    unfold I64 at hb
    simp [Lit.wf, IntKind.min, IntKind.max, IntKind.signed, IntKind.bits]; omega
  obtain ⟨q, hq⟩ : ∃ q, Try.prog.types.size = q + 1 := ⟨Try.prog.types.size - 1, by have := (show (67 : Nat) < Try.prog.types.size from slot_row); omega⟩
  have hf : (Value.agg #[.int .i64 a, .int .i64 b]).formed Try.prog 67 = true := by simp [Value.formed, Try.underlying67, slot_cells]
  have hc1 : Try.prog.cellsOf 3 = 1 := by kernel_rfl
  unfold keyOf
  rw [Try.underlying67]
  simp only [slot_kt, hf, hq, Bool.true_and, if_true]
  simp [Program.keyLits, Value.cells, Try.underlying67, Try.underlying3, slot_cells, hc1, h1, h2]
end Go.Proofs.Ytipecejghioicaa
