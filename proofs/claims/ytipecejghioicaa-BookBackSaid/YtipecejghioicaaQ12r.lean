/- siloref16.Book's look at a tag. Printed by gen_q12.py. -/
import Derived.Test.YtipecejghioicaaB6r
import Derived.Test.YtipecejghioicaaE2r
import Derived.Deep.Cut
import Derived.Deep.CutBlock
import Derived.Test.YtipecejghioicaaQ10r
-- from N2r
namespace Go.Silo
open Go Go.RowKit
/-- A region with one step that stores, behind all that read. -/
inductive Wd1 (V : World) (i : Nat) (V' : World) : List (Nat × Value) → World → Prop
  | pre : Wd1 V i V' [] V
  | post {x : Value} : Wd1 V i V' [(i, x)] V'
theorem Wd1.early {V V' W : World} {i : Nat} {us : List (Nat × Value)} (h : Wd1 V i V' us W) (hn : i ∉ us.map Prod.fst) : us = [] ∧ W = V := by
  cases h with
  | pre => exact ⟨rfl, rfl⟩
  | post => exact absurd (by simp) hn
theorem Wd1.done {V V' W : World} {i : Nat} {us : List (Nat × Value)} (h : Wd1 V i V' us W) (hm : i ∈ us.map Prod.fst) : W = V' := by
  cases h with
  | pre => simp at hm
  | post => rfl
end Go.Silo
namespace Go.Proofs.Ytipecejghioicaa
open Go.RowKit Go.Silo

theorem shapeOk_K {s : Shape} (h : shapeOk s = true) : 1 ≤ s.K ∧ s.K ≤ 8 ∧ 0 ≤ s.M ∧ s.M ≤ 6 ∧ 1 ≤ s.size ∧ s.size ≤ 120 := by
  unfold shapeOk at h
  exact of_decide_eq_true h
end Go.Proofs.Ytipecejghioicaa
namespace Go.Proofs.Ytipecejghioicaa
open Go.RowKit Go.Silo
/-- A region of a code, by its number. -/
def seekRegion (id : Nat) : Code → Option Code
  | .region i ops b => if i = id then some (.region i ops b) else none
  | .seq a b => match seekRegion id a with
    | some c => some c
    | none => seekRegion id b
  | .block _ c => seekRegion id c
  | .loop c => seekRegion id c
  | .scope c => seekRegion id c
  | .cond _ a b => match seekRegion id a with
    | some c => some c
    | none => seekRegion id b
  | _ => none
end Go.Proofs.Ytipecejghioicaa
