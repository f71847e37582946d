/-
  No cell of these rows narrows 'for every input' (looked for: loops, veiled, ifaces, maps, wideKeys, modest, calm, conditions, laid).
  DERIVED. THE GIVEN ROWS OF THIS SEAT. 6 by the template 'for every input the law returns true; each argument reads behind the call as it read before'; 0 by the template 'total and deterministic' (their statements: YtjeecdoffoahkaaTotals.lean).
  GIVEN WITH THE SEED: the statements are not yours to turn. If you find one false, say at which input.
  Laid BY PROGRAM, IN A SANDBOX (cutbox-rows.mjs): the forced cells as the released guide's own fill.sh prints them over the translation f34387d1861d1be7… (all of the seat's roots in one cut). By AI agents, Wed Nov 11 2026. No macro, syntax, notation, axiom, sorry.
-/
import Derived.Test.YtjeecdoffoahkaaChecked
import GoSem.Claim
import GoSem.ClaimJoined
import GoSem.ClaimMapViews
import Derived.JoinedTies
import Derived.KernelRfl
namespace Go.Proofs.Ytjeecdoffoahkaa
/- THE CELL 'sum', in the pinned program and in every row, IS THE sha256 OF THE DUMP (.gsa) THAT YtjeecdoffoahkaaProg.lean LOADS. Nothing in Lean hashes anything: it is a label: what it is worth is what the hold of that sum in a sandbox is worth. -/
noncomputable def Try.pinned : Pinned := { name := "ytjeecdoffoahkaa", sum := "f34387d1861d1be72128b4030e36d8a4f16435daf423890f4d012cec4a4d882e", checked := Try.checked }
namespace Rows
def none {H : Type} : Left H := { results := [], args := [] }

/-- 'silolaw17.RotaNext': WHATEVER THE INPUT: true; the input reads as it did. -/
def rotaNextSpec : ChangeSpec := { name := "rotaNext", fn := fun _ => fun
  | [d] => { results := [.lit (.bool true)], args := [d] }
  | _ => none }
def rotaNextRow : OpenClaim := { program := "ytjeecdoffoahkaa", sum := "f34387d1861d1be72128b4030e36d8a4f16435daf423890f4d012cec4a4d882e", func := "silo/silolaw17.RotaNext", spec := "rotaNext", unfollowed := true, recurses := true, plainKeys := false, apart := false }
def RotaNextSaid : Prop := rotaNextRow.holds Try.pinned (OpenSpec.ofChange rotaNextSpec)

/-- ITS FALSE NEIGHBOUR: 'it returns false'. Refute it at one input. -/
def rotaNextWrong : ChangeSpec := { name := "rotaNext", fn := fun _ => fun
  | [d] => { results := [.lit (.bool false)], args := [d] }
  | _ => none }
def RotaNextWrongFalsely : Prop := rotaNextRow.holds Try.pinned (OpenSpec.ofChange rotaNextWrong)

/-- 'silolaw17.RotaRound': WHATEVER THE INPUT: true; the input reads as it did. -/
def rotaRoundSpec : ChangeSpec := { name := "rotaRound", fn := fun _ => fun
  | [d] => { results := [.lit (.bool true)], args := [d] }
  | _ => none }
def rotaRoundRow : OpenClaim := { program := "ytjeecdoffoahkaa", sum := "f34387d1861d1be72128b4030e36d8a4f16435daf423890f4d012cec4a4d882e", func := "silo/silolaw17.RotaRound", spec := "rotaRound", unfollowed := true, recurses := true, plainKeys := false, apart := false }
def RotaRoundSaid : Prop := rotaRoundRow.holds Try.pinned (OpenSpec.ofChange rotaRoundSpec)

/-- ITS FALSE NEIGHBOUR: 'it returns false'. Refute it at one input. -/
def rotaRoundWrong : ChangeSpec := { name := "rotaRound", fn := fun _ => fun
  | [d] => { results := [.lit (.bool false)], args := [d] }
  | _ => none }
def RotaRoundWrongFalsely : Prop := rotaRoundRow.holds Try.pinned (OpenSpec.ofChange rotaRoundWrong)

/-- 'silolaw18.FitText': WHATEVER THE INPUT: true; the input reads as it did. -/
def fitTextSpec : ChangeSpec := { name := "fitText", fn := fun _ => fun
  | [d] => { results := [.lit (.bool true)], args := [d] }
  | _ => none }
def fitTextRow : OpenClaim := { program := "ytjeecdoffoahkaa", sum := "f34387d1861d1be72128b4030e36d8a4f16435daf423890f4d012cec4a4d882e", func := "silo/silolaw18.FitText", spec := "fitText", unfollowed := true, recurses := true, plainKeys := false, apart := false }
def FitTextSaid : Prop := fitTextRow.holds Try.pinned (OpenSpec.ofChange fitTextSpec)

/-- ITS FALSE NEIGHBOUR: 'it returns false'. Refute it at one input. -/
def fitTextWrong : ChangeSpec := { name := "fitText", fn := fun _ => fun
  | [d] => { results := [.lit (.bool false)], args := [d] }
  | _ => none }
def FitTextWrongFalsely : Prop := fitTextRow.holds Try.pinned (OpenSpec.ofChange fitTextWrong)

/-- 'silolaw15.PlaceMoves': WHATEVER THE INPUT: true; the input reads as it did. -/
def placeMovesSpec : ChangeSpec := { name := "placeMoves", fn := fun _ => fun
  | [d] => { results := [.lit (.bool true)], args := [d] }
  | _ => none }
def placeMovesRow : OpenClaim := { program := "ytjeecdoffoahkaa", sum := "f34387d1861d1be72128b4030e36d8a4f16435daf423890f4d012cec4a4d882e", func := "silo/silolaw15.PlaceMoves", spec := "placeMoves", unfollowed := true, recurses := true, plainKeys := false, apart := false }
def PlaceMovesSaid : Prop := placeMovesRow.holds Try.pinned (OpenSpec.ofChange placeMovesSpec)

/-- ITS FALSE NEIGHBOUR: 'it returns false'. Refute it at one input. -/
def placeMovesWrong : ChangeSpec := { name := "placeMoves", fn := fun _ => fun
  | [d] => { results := [.lit (.bool false)], args := [d] }
  | _ => none }
def PlaceMovesWrongFalsely : Prop := placeMovesRow.holds Try.pinned (OpenSpec.ofChange placeMovesWrong)

/-- 'silolaw11.SlotsExact': WHATEVER THE INPUT: true; the input reads as it did. -/
def slotsExactSpec : ChangeSpec := { name := "slotsExact", fn := fun _ => fun
  | [d] => { results := [.lit (.bool true)], args := [d] }
  | _ => none }
def slotsExactRow : OpenClaim := { program := "ytjeecdoffoahkaa", sum := "f34387d1861d1be72128b4030e36d8a4f16435daf423890f4d012cec4a4d882e", func := "silo/silolaw11.SlotsExact", spec := "slotsExact", inPlace := ["slices.overlaps[int]"], unfollowed := true, recurses := true, plainKeys := false, apart := false }
def SlotsExactSaid : Prop := slotsExactRow.holds Try.pinned (OpenSpec.ofChange slotsExactSpec)

/-- ITS FALSE NEIGHBOUR: 'it returns false'. Refute it at one input. -/
def slotsExactWrong : ChangeSpec := { name := "slotsExact", fn := fun _ => fun
  | [d] => { results := [.lit (.bool false)], args := [d] }
  | _ => none }
def SlotsExactWrongFalsely : Prop := slotsExactRow.holds Try.pinned (OpenSpec.ofChange slotsExactWrong)

/-- 'silolaw16.BookBack': WHATEVER THE INPUT: true; the input reads as it did. -/
def bookBackSpec : ChangeSpec := { name := "bookBack", fn := fun _ => fun
  | [d] => { results := [.lit (.bool true)], args := [d] }
  | _ => none }
def bookBackRow : OpenClaim := { program := "ytjeecdoffoahkaa", sum := "f34387d1861d1be72128b4030e36d8a4f16435daf423890f4d012cec4a4d882e", func := "silo/silolaw16.BookBack", spec := "bookBack", inPlace := ["slices.overlaps[silo/api.Stripe]", "internal/bytealg.abigen_runtime_cmpstring", "slices.overlaps[silo/api.Entry]", "slices.overlaps[silo/api.Tag]"], unfollowed := true, recurses := true, plainKeys := false, apart := false }
def BookBackSaid : Prop := bookBackRow.holds Try.pinned (OpenSpec.ofChange bookBackSpec)

/-- ITS FALSE NEIGHBOUR: 'it returns false'. Refute it at one input. -/
def bookBackWrong : ChangeSpec := { name := "bookBack", fn := fun _ => fun
  | [d] => { results := [.lit (.bool false)], args := [d] }
  | _ => none }
def BookBackWrongFalsely : Prop := bookBackRow.holds Try.pinned (OpenSpec.ofChange bookBackWrong)

/- THE SECOND FORM. 'bulk': how many values and letters a reading holds, each counted each time it is reached (what is shared counts as often as it is met; a slice's spare places count too). A statement '..UptoSaid' is the law's where the arguments, and the package variables that the reading takes, are together of bulk at most 1048576: NARROWER than '..Said'. Prove '..Said' where nothing that the law and all that it calls make is longer than what came in: it says more and counts as full. Else prove '..UptoSaid'. A law counts once. -/
mutual
def uptoBulk {H : Type} : DataW H → Nat
  | .lit (.string bytes) => bytes.length + 1
  | .lit _ => 1
  | .nil => 1
  | .ptr d => uptoBulk d + 1
  | .slice elems spare => uptoBulkAll elems + uptoBulkAll spare + 1
  | .agg parts => uptoBulkAll parts + 1
  | .iface _ d => uptoBulk d + 1
  | .map entries => uptoBulkEntries entries + 1
  | .held _ => 1
def uptoBulkAll {H : Type} : List (DataW H) → Nat
  | [] => 0
  | d :: r => uptoBulk d + uptoBulkAll r
def uptoBulkEntries {H : Type} : List (Lit × DataW H) → Nat
  | [] => 0
  | x :: r => uptoBulkEntry x + uptoBulkEntries r
def uptoBulkEntry {H : Type} : Lit × DataW H → Nat
  | (.string bytes, d) => bytes.length + uptoBulk d + 1
  | (_, d) => uptoBulk d + 1
 end
def uptoSmall : (H : Type) → List (DataW H) → Bool := fun _ ds => decide (uptoBulkAll ds ≤ 1048576)
def OpenSpec.upto (s : _root_.Go.ChangeSpec) : _root_.Go.OpenSpec := { _root_.Go.OpenSpec.ofChange s with cond := some uptoSmall }

/-- 'silolaw17.RotaNext', WHERE WHAT IT READS IS OF BULK AT MOST 1048576: true; the input reads as it did. -/
def rotaNextUptoRow : OpenClaim := { program := "ytjeecdoffoahkaa", sum := "f34387d1861d1be72128b4030e36d8a4f16435daf423890f4d012cec4a4d882e", func := "silo/silolaw17.RotaNext", spec := "rotaNext", unfollowed := true, recurses := true, plainKeys := false, apart := false, narrowed := true }
def RotaNextUptoSaid : Prop := rotaNextUptoRow.holds Try.pinned (OpenSpec.upto rotaNextSpec)

/-- 'silolaw17.RotaRound', WHERE WHAT IT READS IS OF BULK AT MOST 1048576: true; the input reads as it did. -/
def rotaRoundUptoRow : OpenClaim := { program := "ytjeecdoffoahkaa", sum := "f34387d1861d1be72128b4030e36d8a4f16435daf423890f4d012cec4a4d882e", func := "silo/silolaw17.RotaRound", spec := "rotaRound", unfollowed := true, recurses := true, plainKeys := false, apart := false, narrowed := true }
def RotaRoundUptoSaid : Prop := rotaRoundUptoRow.holds Try.pinned (OpenSpec.upto rotaRoundSpec)

/-- 'silolaw18.FitText', WHERE WHAT IT READS IS OF BULK AT MOST 1048576: true; the input reads as it did. -/
def fitTextUptoRow : OpenClaim := { program := "ytjeecdoffoahkaa", sum := "f34387d1861d1be72128b4030e36d8a4f16435daf423890f4d012cec4a4d882e", func := "silo/silolaw18.FitText", spec := "fitText", unfollowed := true, recurses := true, plainKeys := false, apart := false, narrowed := true }
def FitTextUptoSaid : Prop := fitTextUptoRow.holds Try.pinned (OpenSpec.upto fitTextSpec)

/-- 'silolaw15.PlaceMoves', WHERE WHAT IT READS IS OF BULK AT MOST 1048576: true; the input reads as it did. -/
def placeMovesUptoRow : OpenClaim := { program := "ytjeecdoffoahkaa", sum := "f34387d1861d1be72128b4030e36d8a4f16435daf423890f4d012cec4a4d882e", func := "silo/silolaw15.PlaceMoves", spec := "placeMoves", unfollowed := true, recurses := true, plainKeys := false, apart := false, narrowed := true }
def PlaceMovesUptoSaid : Prop := placeMovesUptoRow.holds Try.pinned (OpenSpec.upto placeMovesSpec)

/-- 'silolaw11.SlotsExact', WHERE WHAT IT READS IS OF BULK AT MOST 1048576: true; the input reads as it did. -/
def slotsExactUptoRow : OpenClaim := { program := "ytjeecdoffoahkaa", sum := "f34387d1861d1be72128b4030e36d8a4f16435daf423890f4d012cec4a4d882e", func := "silo/silolaw11.SlotsExact", spec := "slotsExact", inPlace := ["slices.overlaps[int]"], unfollowed := true, recurses := true, plainKeys := false, apart := false, narrowed := true }
def SlotsExactUptoSaid : Prop := slotsExactUptoRow.holds Try.pinned (OpenSpec.upto slotsExactSpec)

/-- 'silolaw16.BookBack', WHERE WHAT IT READS IS OF BULK AT MOST 1048576: true; the input reads as it did. -/
def bookBackUptoRow : OpenClaim := { program := "ytjeecdoffoahkaa", sum := "f34387d1861d1be72128b4030e36d8a4f16435daf423890f4d012cec4a4d882e", func := "silo/silolaw16.BookBack", spec := "bookBack", inPlace := ["slices.overlaps[silo/api.Stripe]", "internal/bytealg.abigen_runtime_cmpstring", "slices.overlaps[silo/api.Entry]", "slices.overlaps[silo/api.Tag]"], unfollowed := true, recurses := true, plainKeys := false, apart := false, narrowed := true }
def BookBackUptoSaid : Prop := bookBackUptoRow.holds Try.pinned (OpenSpec.upto bookBackSpec)

end Rows
end Go.Proofs.Ytjeecdoffoahkaa
