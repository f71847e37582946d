/- slices.Clone at each instance; slots in memory of their own; the numbers from 0 on. Printed by gen_lib.py. -/
import Derived.Test.YtjeecdoffoahkaaS1r
import Derived.Lib.SliceRun
import Derived.Deep.RegionLaw
import Derived.Deep.DeepMust
namespace Go.Proofs.Ytjeecdoffoahkaa
open Go.RowKit Go.Silo

/-- 0, 1, .. up to n. -/
def upto (n : Nat) : List Int := (List.range n).map (fun i : Nat => (i : Int))
end Go.Proofs.Ytjeecdoffoahkaa
