/-
  No cell of these rows narrows 'for every input' (looked for: loops, veiled, ifaces, maps, wideKeys, modest, calm, conditions, laid).
  DERIVED. THE GIVEN ROWS OF THIS SEAT. 7 by the template 'for every input the law returns true; each argument reads behind the call as it read before'; 0 by the template 'total and deterministic' (their statements: YtipecejghioicaaGreatTotals.lean).
  GIVEN WITH THE SEED: the statements are not yours to turn. If you find one false, say at which input.
  Laid BY PROGRAM, IN A SANDBOX (cutbox-rows.mjs): the forced cells as the released guide's own fill.sh prints them over the translation 16f266d36006caa1… (all of the seat's roots in one cut). By AI agents, Wed Nov 11 2026. No macro, syntax, notation, axiom, sorry.
-/
import Derived.Test.YtipecejghioicaaGreatChecked
import GoSem.Claim
import GoSem.ClaimJoined
import GoSem.ClaimMapViews
import Derived.JoinedTies
import Derived.KernelRfl
namespace Go.Proofs.YtipecejghioicaaGreat
/- THE CELL 'sum', in the pinned program and in every row, IS THE sha256 OF THE DUMP (.gsa) THAT YtipecejghioicaaGreatProg.lean LOADS. Nothing in Lean hashes anything: it is a label: what it is worth is what the hold of that sum in a sandbox is worth. -/
noncomputable def Tryz.pinned : Pinned := { name := "ytipecejghioicaagreat", sum := "16f266d36006caa164dd32f540cc5f26fa26d8dd1a913f7aee617917ba37a8b6", checked := Tryz.checked }
namespace Rows
def none {H : Type} : Left H := { results := [], args := [] }

/-- 'silolaw16.BookNames': WHATEVER THE INPUT: true; the input reads as it did. -/
def bookNamesSpec : ChangeSpec := { name := "bookNames", fn := fun _ => fun
  | [d] => { results := [.lit (.bool true)], args := [d] }
  | _ => none }
def bookNamesRow : OpenClaim := { program := "ytipecejghioicaagreat", sum := "16f266d36006caa164dd32f540cc5f26fa26d8dd1a913f7aee617917ba37a8b6", func := "silo/silolaw16.BookNames", spec := "bookNames", inPlace := ["slices.overlaps[silo/api.Stripe]", "internal/bytealg.abigen_runtime_cmpstring", "slices.overlaps[silo/api.Entry]", "slices.overlaps[silo/api.Tag]"], unfollowed := true, recurses := true, plainKeys := false, apart := false }
def BookNamesSaid : Prop := bookNamesRow.holds Tryz.pinned (OpenSpec.ofChange bookNamesSpec)

/-- ITS FALSE NEIGHBOUR: 'it returns false'. Refute it at one input. -/
def bookNamesWrong : ChangeSpec := { name := "bookNames", fn := fun _ => fun
  | [d] => { results := [.lit (.bool false)], args := [d] }
  | _ => none }
def BookNamesWrongFalsely : Prop := bookNamesRow.holds Tryz.pinned (OpenSpec.ofChange bookNamesWrong)

/-- 'silolaw16.BookSlots': WHATEVER THE INPUT: true; the input reads as it did. -/
def bookSlotsSpec : ChangeSpec := { name := "bookSlots", fn := fun _ => fun
  | [d] => { results := [.lit (.bool true)], args := [d] }
  | _ => none }
def bookSlotsRow : OpenClaim := { program := "ytipecejghioicaagreat", sum := "16f266d36006caa164dd32f540cc5f26fa26d8dd1a913f7aee617917ba37a8b6", func := "silo/silolaw16.BookSlots", spec := "bookSlots", inPlace := ["slices.overlaps[silo/api.Stripe]", "internal/bytealg.abigen_runtime_cmpstring", "slices.overlaps[silo/api.Entry]", "slices.overlaps[silo/api.Tag]"], unfollowed := true, recurses := true, plainKeys := false, apart := false }
def BookSlotsSaid : Prop := bookSlotsRow.holds Tryz.pinned (OpenSpec.ofChange bookSlotsSpec)

/-- ITS FALSE NEIGHBOUR: 'it returns false'. Refute it at one input. -/
def bookSlotsWrong : ChangeSpec := { name := "bookSlots", fn := fun _ => fun
  | [d] => { results := [.lit (.bool false)], args := [d] }
  | _ => none }
def BookSlotsWrongFalsely : Prop := bookSlotsRow.holds Tryz.pinned (OpenSpec.ofChange bookSlotsWrong)

/-- 'silolaw16.BookApplies': WHATEVER THE INPUT: true; the input reads as it did. -/
def bookAppliesSpec : ChangeSpec := { name := "bookApplies", fn := fun _ => fun
  | [d] => { results := [.lit (.bool true)], args := [d] }
  | _ => none }
def bookAppliesRow : OpenClaim := { program := "ytipecejghioicaagreat", sum := "16f266d36006caa164dd32f540cc5f26fa26d8dd1a913f7aee617917ba37a8b6", func := "silo/silolaw16.BookApplies", spec := "bookApplies", inPlace := ["slices.overlaps[silo/api.Stripe]", "internal/bytealg.abigen_runtime_cmpstring", "slices.overlaps[silo/api.Entry]", "slices.overlaps[silo/api.Tag]"], unfollowed := true, recurses := true, plainKeys := false, apart := false }
def BookAppliesSaid : Prop := bookAppliesRow.holds Tryz.pinned (OpenSpec.ofChange bookAppliesSpec)

/-- ITS FALSE NEIGHBOUR: 'it returns false'. Refute it at one input. -/
def bookAppliesWrong : ChangeSpec := { name := "bookApplies", fn := fun _ => fun
  | [d] => { results := [.lit (.bool false)], args := [d] }
  | _ => none }
def BookAppliesWrongFalsely : Prop := bookAppliesRow.holds Tryz.pinned (OpenSpec.ofChange bookAppliesWrong)

/-- 'silolaw16.BookOf': WHATEVER THE INPUT: true; the input reads as it did. -/
def bookOfSpec : ChangeSpec := { name := "bookOf", fn := fun _ => fun
  | [d] => { results := [.lit (.bool true)], args := [d] }
  | _ => none }
def bookOfRow : OpenClaim := { program := "ytipecejghioicaagreat", sum := "16f266d36006caa164dd32f540cc5f26fa26d8dd1a913f7aee617917ba37a8b6", func := "silo/silolaw16.BookOf", spec := "bookOf", inPlace := ["slices.overlaps[silo/api.Stripe]", "internal/bytealg.abigen_runtime_cmpstring", "slices.overlaps[silo/api.Entry]", "slices.overlaps[silo/api.Tag]"], unfollowed := true, recurses := true, plainKeys := false, apart := false }
def BookOfSaid : Prop := bookOfRow.holds Tryz.pinned (OpenSpec.ofChange bookOfSpec)

/-- ITS FALSE NEIGHBOUR: 'it returns false'. Refute it at one input. -/
def bookOfWrong : ChangeSpec := { name := "bookOf", fn := fun _ => fun
  | [d] => { results := [.lit (.bool false)], args := [d] }
  | _ => none }
def BookOfWrongFalsely : Prop := bookOfRow.holds Tryz.pinned (OpenSpec.ofChange bookOfWrong)

/-- 'silolaw16.BookCommits': WHATEVER THE INPUT: true; the input reads as it did. -/
def bookCommitsSpec : ChangeSpec := { name := "bookCommits", fn := fun _ => fun
  | [d] => { results := [.lit (.bool true)], args := [d] }
  | _ => none }
def bookCommitsRow : OpenClaim := { program := "ytipecejghioicaagreat", sum := "16f266d36006caa164dd32f540cc5f26fa26d8dd1a913f7aee617917ba37a8b6", func := "silo/silolaw16.BookCommits", spec := "bookCommits", inPlace := ["slices.overlaps[silo/api.Stripe]", "internal/bytealg.abigen_runtime_cmpstring", "slices.overlaps[silo/api.Entry]", "slices.overlaps[silo/api.Tag]"], unfollowed := true, recurses := true, plainKeys := false, apart := false }
def BookCommitsSaid : Prop := bookCommitsRow.holds Tryz.pinned (OpenSpec.ofChange bookCommitsSpec)

/-- ITS FALSE NEIGHBOUR: 'it returns false'. Refute it at one input. -/
def bookCommitsWrong : ChangeSpec := { name := "bookCommits", fn := fun _ => fun
  | [d] => { results := [.lit (.bool false)], args := [d] }
  | _ => none }
def BookCommitsWrongFalsely : Prop := bookCommitsRow.holds Tryz.pinned (OpenSpec.ofChange bookCommitsWrong)

/-- 'silolaw16.BookFrees': WHATEVER THE INPUT: true; the input reads as it did. -/
def bookFreesSpec : ChangeSpec := { name := "bookFrees", fn := fun _ => fun
  | [d] => { results := [.lit (.bool true)], args := [d] }
  | _ => none }
def bookFreesRow : OpenClaim := { program := "ytipecejghioicaagreat", sum := "16f266d36006caa164dd32f540cc5f26fa26d8dd1a913f7aee617917ba37a8b6", func := "silo/silolaw16.BookFrees", spec := "bookFrees", inPlace := ["slices.overlaps[silo/api.Stripe]", "internal/bytealg.abigen_runtime_cmpstring", "slices.overlaps[silo/api.Entry]", "slices.overlaps[silo/api.Tag]"], unfollowed := true, recurses := true, plainKeys := false, apart := false }
def BookFreesSaid : Prop := bookFreesRow.holds Tryz.pinned (OpenSpec.ofChange bookFreesSpec)

/-- ITS FALSE NEIGHBOUR: 'it returns false'. Refute it at one input. -/
def bookFreesWrong : ChangeSpec := { name := "bookFrees", fn := fun _ => fun
  | [d] => { results := [.lit (.bool false)], args := [d] }
  | _ => none }
def BookFreesWrongFalsely : Prop := bookFreesRow.holds Tryz.pinned (OpenSpec.ofChange bookFreesWrong)

/-- 'silolaw16.BookThings': WHATEVER THE INPUT: true; the input reads as it did. -/
def bookThingsSpec : ChangeSpec := { name := "bookThings", fn := fun _ => fun
  | [d] => { results := [.lit (.bool true)], args := [d] }
  | _ => none }
def bookThingsRow : OpenClaim := { program := "ytipecejghioicaagreat", sum := "16f266d36006caa164dd32f540cc5f26fa26d8dd1a913f7aee617917ba37a8b6", func := "silo/silolaw16.BookThings", spec := "bookThings", inPlace := ["slices.overlaps[silo/api.Stripe]", "internal/bytealg.abigen_runtime_cmpstring", "slices.overlaps[silo/api.Entry]", "slices.overlaps[silo/api.Tag]"], unfollowed := true, recurses := true, plainKeys := false, apart := false }
def BookThingsSaid : Prop := bookThingsRow.holds Tryz.pinned (OpenSpec.ofChange bookThingsSpec)

/-- ITS FALSE NEIGHBOUR: 'it returns false'. Refute it at one input. -/
def bookThingsWrong : ChangeSpec := { name := "bookThings", fn := fun _ => fun
  | [d] => { results := [.lit (.bool false)], args := [d] }
  | _ => none }
def BookThingsWrongFalsely : Prop := bookThingsRow.holds Tryz.pinned (OpenSpec.ofChange bookThingsWrong)

/- THE SECOND FORM. 'bulk': how many values and letters a reading holds, each counted each time it is reached (what is shared counts as often as it is met; a slice's spare places count too). A statement '..UptoSaid' is the law's where the arguments, and the package variables that the reading takes, are together of bulk at most 1048576: NARROWER than '..Said'. Prove '..Said' where nothing that the law and all that it calls make is longer than what came in: it says more and counts as full. Else prove '..UptoSaid'. A law counts once. -/
mutual
def uptoBulk {H : Type} : DataW H → Nat
  | .lit (.string bytes) => bytes.length + 1
  | .lit _ => 1
  | .nil => 1
  | .ptr d => uptoBulk d + 1
  | .slice elems spare => uptoBulkAll elems + uptoBulkAll spare + 1
  | .agg parts => uptoBulkAll parts + 1
  | .iface _ d => uptoBulk d + 1
  | .map entries => uptoBulkEntries entries + 1
  | .held _ => 1
def uptoBulkAll {H : Type} : List (DataW H) → Nat
  | [] => 0
  | d :: r => uptoBulk d + uptoBulkAll r
def uptoBulkEntries {H : Type} : List (Lit × DataW H) → Nat
  | [] => 0
  | x :: r => uptoBulkEntry x + uptoBulkEntries r
def uptoBulkEntry {H : Type} : Lit × DataW H → Nat
  | (.string bytes, d) => bytes.length + uptoBulk d + 1
  | (_, d) => uptoBulk d + 1
 end
def uptoSmall : (H : Type) → List (DataW H) → Bool := fun _ ds => decide (uptoBulkAll ds ≤ 1048576)
def OpenSpec.upto (s : _root_.Go.ChangeSpec) : _root_.Go.OpenSpec := { _root_.Go.OpenSpec.ofChange s with cond := some uptoSmall }

/-- 'silolaw16.BookNames', WHERE WHAT IT READS IS OF BULK AT MOST 1048576: true; the input reads as it did. -/
def bookNamesUptoRow : OpenClaim := { program := "ytipecejghioicaagreat", sum := "16f266d36006caa164dd32f540cc5f26fa26d8dd1a913f7aee617917ba37a8b6", func := "silo/silolaw16.BookNames", spec := "bookNames", inPlace := ["slices.overlaps[silo/api.Stripe]", "internal/bytealg.abigen_runtime_cmpstring", "slices.overlaps[silo/api.Entry]", "slices.overlaps[silo/api.Tag]"], unfollowed := true, recurses := true, plainKeys := false, apart := false, narrowed := true }
def BookNamesUptoSaid : Prop := bookNamesUptoRow.holds Tryz.pinned (OpenSpec.upto bookNamesSpec)

/-- 'silolaw16.BookSlots', WHERE WHAT IT READS IS OF BULK AT MOST 1048576: true; the input reads as it did. -/
def bookSlotsUptoRow : OpenClaim := { program := "ytipecejghioicaagreat", sum := "16f266d36006caa164dd32f540cc5f26fa26d8dd1a913f7aee617917ba37a8b6", func := "silo/silolaw16.BookSlots", spec := "bookSlots", inPlace := ["slices.overlaps[silo/api.Stripe]", "internal/bytealg.abigen_runtime_cmpstring", "slices.overlaps[silo/api.Entry]", "slices.overlaps[silo/api.Tag]"], unfollowed := true, recurses := true, plainKeys := false, apart := false, narrowed := true }
def BookSlotsUptoSaid : Prop := bookSlotsUptoRow.holds Tryz.pinned (OpenSpec.upto bookSlotsSpec)

/-- 'silolaw16.BookApplies', WHERE WHAT IT READS IS OF BULK AT MOST 1048576: true; the input reads as it did. -/
def bookAppliesUptoRow : OpenClaim := { program := "ytipecejghioicaagreat", sum := "16f266d36006caa164dd32f540cc5f26fa26d8dd1a913f7aee617917ba37a8b6", func := "silo/silolaw16.BookApplies", spec := "bookApplies", inPlace := ["slices.overlaps[silo/api.Stripe]", "internal/bytealg.abigen_runtime_cmpstring", "slices.overlaps[silo/api.Entry]", "slices.overlaps[silo/api.Tag]"], unfollowed := true, recurses := true, plainKeys := false, apart := false, narrowed := true }
def BookAppliesUptoSaid : Prop := bookAppliesUptoRow.holds Tryz.pinned (OpenSpec.upto bookAppliesSpec)

/-- 'silolaw16.BookOf', WHERE WHAT IT READS IS OF BULK AT MOST 1048576: true; the input reads as it did. -/
def bookOfUptoRow : OpenClaim := { program := "ytipecejghioicaagreat", sum := "16f266d36006caa164dd32f540cc5f26fa26d8dd1a913f7aee617917ba37a8b6", func := "silo/silolaw16.BookOf", spec := "bookOf", inPlace := ["slices.overlaps[silo/api.Stripe]", "internal/bytealg.abigen_runtime_cmpstring", "slices.overlaps[silo/api.Entry]", "slices.overlaps[silo/api.Tag]"], unfollowed := true, recurses := true, plainKeys := false, apart := false, narrowed := true }
def BookOfUptoSaid : Prop := bookOfUptoRow.holds Tryz.pinned (OpenSpec.upto bookOfSpec)

/-- 'silolaw16.BookCommits', WHERE WHAT IT READS IS OF BULK AT MOST 1048576: true; the input reads as it did. -/
def bookCommitsUptoRow : OpenClaim := { program := "ytipecejghioicaagreat", sum := "16f266d36006caa164dd32f540cc5f26fa26d8dd1a913f7aee617917ba37a8b6", func := "silo/silolaw16.BookCommits", spec := "bookCommits", inPlace := ["slices.overlaps[silo/api.Stripe]", "internal/bytealg.abigen_runtime_cmpstring", "slices.overlaps[silo/api.Entry]", "slices.overlaps[silo/api.Tag]"], unfollowed := true, recurses := true, plainKeys := false, apart := false, narrowed := true }
def BookCommitsUptoSaid : Prop := bookCommitsUptoRow.holds Tryz.pinned (OpenSpec.upto bookCommitsSpec)

/-- 'silolaw16.BookFrees', WHERE WHAT IT READS IS OF BULK AT MOST 1048576: true; the input reads as it did. -/
def bookFreesUptoRow : OpenClaim := { program := "ytipecejghioicaagreat", sum := "16f266d36006caa164dd32f540cc5f26fa26d8dd1a913f7aee617917ba37a8b6", func := "silo/silolaw16.BookFrees", spec := "bookFrees", inPlace := ["slices.overlaps[silo/api.Stripe]", "internal/bytealg.abigen_runtime_cmpstring", "slices.overlaps[silo/api.Entry]", "slices.overlaps[silo/api.Tag]"], unfollowed := true, recurses := true, plainKeys := false, apart := false, narrowed := true }
def BookFreesUptoSaid : Prop := bookFreesUptoRow.holds Tryz.pinned (OpenSpec.upto bookFreesSpec)

/-- 'silolaw16.BookThings', WHERE WHAT IT READS IS OF BULK AT MOST 1048576: true; the input reads as it did. -/
def bookThingsUptoRow : OpenClaim := { program := "ytipecejghioicaagreat", sum := "16f266d36006caa164dd32f540cc5f26fa26d8dd1a913f7aee617917ba37a8b6", func := "silo/silolaw16.BookThings", spec := "bookThings", inPlace := ["slices.overlaps[silo/api.Stripe]", "internal/bytealg.abigen_runtime_cmpstring", "slices.overlaps[silo/api.Entry]", "slices.overlaps[silo/api.Tag]"], unfollowed := true, recurses := true, plainKeys := false, apart := false, narrowed := true }
def BookThingsUptoSaid : Prop := bookThingsUptoRow.holds Tryz.pinned (OpenSpec.upto bookThingsSpec)

end Rows
end Go.Proofs.YtipecejghioicaaGreat
