/- slots.Take. -/
import Derived.Test.YtjeecdoffoahkaaS9r
namespace Go.Proofs.Ytjeecdoffoahkaa
open Go.RowKit Go.Silo

theorem row_set2 {w : World} {g : Nat} {a b u v : Value} {T : TypeId} (h : w.heap[g]? = some (.cells #[a, b] T (0, 0))) : ((w.setCell ⟨g, 0, none⟩ u).setCell ⟨g, 1, none⟩ v).heap[g]? = some (.cells #[u, v] T (0, 0)) := by
  simp [World.setCell, Array.getElem?_modify, h]
end Go.Proofs.Ytjeecdoffoahkaa
