/- slices.Insert and slices.BinarySearch at []int, laid from the shelf; read in this work's words. -/
import Derived.Ground.Names2Prog
import Derived.Shelf.Lay
import Derived.Shelf.Slices.SearchI
import Derived.Shelf.Slices.Empties
import Derived.Shelf.Spec.SlicesInsert
import Derived.Shelf.Spec.SlicesInsertGrow
import Derived.Test.YtfccghfcilccfaaT2
namespace Go.Proofs
open Go.Shelf Go.Lib Go.RowKit

shelf_lay Lays2.n25 Nm2 25 at Try as Try.lays25
shelf_lay Lays2.n21 Nm2 21 at Try as Try.lays21
end Go.Proofs
