/- slices.Insert and slices.BinarySearch at []int: this program bears the library's own bodies; so the contracts of the shelf hold of it. -/
import Derived.Ground.Names2Prog
import Derived.Shelf.Slices.SearchI
import Derived.Shelf.Slices.Empties
import Derived.Shelf.Spec.SlicesInsert
import Derived.Shelf.Spec.SlicesInsertGrow
import Derived.Test.YtfccghfcilccfaaT2
namespace Go.Proofs
open Go.Shelf Go.Lib Go.RowKit

def Try.lays25_ren : Go.Shelf.Ren := ⟨fun | 25 => 123 | 31 => 165 | 32 => 166 | 37 => 190 | n => n, fun | 3 => 3 | 4 => 4 | 22 => 52 | 40 => 161 | n => n, fun n => n⟩
theorem Try.lays25 : Lays2.n25 Try.prog Try.lays25_ren where
  mixed := by kernel_rfl
  f25 := Try.func123.trans (congrArg some (by kernel_rfl))
  f31 := Try.func165.trans (congrArg some (by kernel_rfl))
  f32 := Try.func166.trans (congrArg some (by kernel_rfl))
  f37 := Try.func190.trans (congrArg some (by kernel_rfl))
  t0 := Try.underlying0
  a0 := Try.isAgg0
  z0 := Try.sizeOf0
  v0 := Try.zeroValue0
  t3 := Try.underlying3
  a3 := Try.isAgg3
  z3 := Try.sizeOf3
  v3 := Try.zeroValue3
  t4 := Try.underlying4
  a4 := Try.isAgg4
  z4 := Try.sizeOf4
  v4 := Try.zeroValue4
  t22 := Try.underlying52
  a22 := Try.isAgg52
  z22 := Try.sizeOf52
  v22 := Try.zeroValue52
  t40 := Try.underlying161
  a40 := Try.isAgg161
  z40 := Try.sizeOf161
  v40 := Try.zeroValue161

def Try.lays21_ren : Go.Shelf.Ren := ⟨fun | 21 => 124 | 27 => 167 | 28 => 168 | 35 => 191 | 39 => 212 | n => n, fun | 3 => 3 | 4 => 4 | 22 => 52 | n => n, fun n => n⟩
theorem Try.lays21 : Lays2.n21 Try.prog Try.lays21_ren where
  mixed := by kernel_rfl
  f21 := Try.func124.trans (congrArg some (by kernel_rfl))
  f27 := Try.func167.trans (congrArg some (by kernel_rfl))
  f28 := Try.func168.trans (congrArg some (by kernel_rfl))
  f35 := Try.func191.trans (congrArg some (by kernel_rfl))
  f39 := Try.func212.trans (congrArg some (by kernel_rfl))
  t0 := Try.underlying0
  a0 := Try.isAgg0
  z0 := Try.sizeOf0
  v0 := Try.zeroValue0
  t3 := Try.underlying3
  a3 := Try.isAgg3
  z3 := Try.sizeOf3
  v3 := Try.zeroValue3
  t4 := Try.underlying4
  a4 := Try.isAgg4
  z4 := Try.sizeOf4
  v4 := Try.zeroValue4
  t22 := Try.underlying52
  a22 := Try.isAgg52
  z22 := Try.sizeOf52
  v22 := Try.zeroValue52
  i3 := by kernel_rfl
end Go.Proofs
