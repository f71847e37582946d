/- siloref0.CopyBook: a copy of a book. -/
import Derived.Test.YtipecejghioicaaZdr
import Derived.Test.YtipecejghioicaaQ10r
namespace Go.Proofs.Ytipecejghioicaa
open Go.RowKit Go.Silo

theorem Few.places {b : Book} (h : Few b) : ∀ y ∈ b.stripes, y.place.length ≤ 100000000 := fun y hy => by
  have h1 := h.sl
  unfold slotsTo at h1
  rw [List.take_length] at h1
  obtain ⟨s, t, e⟩ := List.append_of_mem hy
  rw [e, List.flatMap_append, List.flatMap_cons, List.length_append, List.length_append] at h1
  omega
theorem Few.lists {b : Book} (h : Few b) : ∀ y ∈ b.things, y.list.length ≤ 100000000 := fun y hy => by
  have h1 := h.nm
  unfold namedTo at h1
  rw [List.take_length] at h1
  obtain ⟨s, t, e⟩ := List.append_of_mem hy
  rw [e, List.flatMap_append, List.flatMap_cons, List.length_append, List.length_append] at h1
  omega
end Go.Proofs.Ytipecejghioicaa
