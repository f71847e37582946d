/-
  No cell of these rows narrows 'for every input' (looked for: loops, veiled, ifaces, maps, wideKeys, modest, calm, conditions, laid).
  DERIVED. THE GIVEN ROWS OF THIS SEAT. 15 by the template 'for every input the law returns true; each argument reads behind the call as it read before'; 0 by the template 'total and deterministic' (their statements: YtfccghfcilccfaaTotals.lean).
  GIVEN WITH THE SEED: the statements are not yours to turn. If you find one false, say at which input.
  Laid BY PROGRAM, IN A SANDBOX (cutbox-rows.mjs): the forced cells as the released guide's own fill.sh prints them over the translation 55d9db936d1d0783… (all of the seat's roots in one cut). By AI agents, Wed Nov 11 2026. No macro, syntax, notation, axiom, sorry.
-/
import Derived.Test.YtfccghfcilccfaaChecked
import GoSem.Claim
import GoSem.ClaimJoined
import GoSem.ClaimMapViews
import Derived.JoinedTies
import Derived.KernelRfl
namespace Go.Proofs.Ytfccghfcilccfaa
/- THE CELL 'sum', in the pinned program and in every row, IS THE sha256 OF THE DUMP (.gsa) THAT YtfccghfcilccfaaProg.lean LOADS. Nothing in Lean hashes anything: it is a label: what it is worth is what the hold of that sum in a sandbox is worth. -/
noncomputable def Try.pinned : Pinned := { name := "ytfccghfcilccfaa", sum := "55d9db936d1d0783efcae5ea2c96a9eb8b5c0f4685f3d5d3b4728d048c8325e0", checked := Try.checked }
namespace Rows
def none {H : Type} : Left H := { results := [], args := [] }

/-- 'silolaw17.RotaNext': WHATEVER THE INPUT: true; the input reads as it did. -/
def rotaNextSpec : ChangeSpec := { name := "rotaNext", fn := fun _ => fun
  | [d] => { results := [.lit (.bool true)], args := [d] }
  | _ => none }
def rotaNextRow : OpenClaim := { program := "ytfccghfcilccfaa", sum := "55d9db936d1d0783efcae5ea2c96a9eb8b5c0f4685f3d5d3b4728d048c8325e0", func := "silo/silolaw17.RotaNext", spec := "rotaNext", unfollowed := true, recurses := true, plainKeys := false, apart := false }
def RotaNextSaid : Prop := rotaNextRow.holds Try.pinned (OpenSpec.ofChange rotaNextSpec)

/-- ITS FALSE NEIGHBOUR: 'it returns false'. Refute it at one input. -/
def rotaNextWrong : ChangeSpec := { name := "rotaNext", fn := fun _ => fun
  | [d] => { results := [.lit (.bool false)], args := [d] }
  | _ => none }
def RotaNextWrongFalsely : Prop := rotaNextRow.holds Try.pinned (OpenSpec.ofChange rotaNextWrong)

/-- 'silolaw17.RotaRound': WHATEVER THE INPUT: true; the input reads as it did. -/
def rotaRoundSpec : ChangeSpec := { name := "rotaRound", fn := fun _ => fun
  | [d] => { results := [.lit (.bool true)], args := [d] }
  | _ => none }
def rotaRoundRow : OpenClaim := { program := "ytfccghfcilccfaa", sum := "55d9db936d1d0783efcae5ea2c96a9eb8b5c0f4685f3d5d3b4728d048c8325e0", func := "silo/silolaw17.RotaRound", spec := "rotaRound", unfollowed := true, recurses := true, plainKeys := false, apart := false }
def RotaRoundSaid : Prop := rotaRoundRow.holds Try.pinned (OpenSpec.ofChange rotaRoundSpec)

/-- ITS FALSE NEIGHBOUR: 'it returns false'. Refute it at one input. -/
def rotaRoundWrong : ChangeSpec := { name := "rotaRound", fn := fun _ => fun
  | [d] => { results := [.lit (.bool false)], args := [d] }
  | _ => none }
def RotaRoundWrongFalsely : Prop := rotaRoundRow.holds Try.pinned (OpenSpec.ofChange rotaRoundWrong)

/-- 'silolaw18.FitTurns': WHATEVER THE INPUT: true; the input reads as it did. -/
def fitTurnsSpec : ChangeSpec := { name := "fitTurns", fn := fun _ => fun
  | [d] => { results := [.lit (.bool true)], args := [d] }
  | _ => none }
def fitTurnsRow : OpenClaim := { program := "ytfccghfcilccfaa", sum := "55d9db936d1d0783efcae5ea2c96a9eb8b5c0f4685f3d5d3b4728d048c8325e0", func := "silo/silolaw18.FitTurns", spec := "fitTurns", unfollowed := true, recurses := true, plainKeys := false, apart := false }
def FitTurnsSaid : Prop := fitTurnsRow.holds Try.pinned (OpenSpec.ofChange fitTurnsSpec)

/-- ITS FALSE NEIGHBOUR: 'it returns false'. Refute it at one input. -/
def fitTurnsWrong : ChangeSpec := { name := "fitTurns", fn := fun _ => fun
  | [d] => { results := [.lit (.bool false)], args := [d] }
  | _ => none }
def FitTurnsWrongFalsely : Prop := fitTurnsRow.holds Try.pinned (OpenSpec.ofChange fitTurnsWrong)

/-- 'silolaw15.PlaceNeeds': WHATEVER THE INPUT: true; the input reads as it did. -/
def placeNeedsSpec : ChangeSpec := { name := "placeNeeds", fn := fun _ => fun
  | [d] => { results := [.lit (.bool true)], args := [d] }
  | _ => none }
def placeNeedsRow : OpenClaim := { program := "ytfccghfcilccfaa", sum := "55d9db936d1d0783efcae5ea2c96a9eb8b5c0f4685f3d5d3b4728d048c8325e0", func := "silo/silolaw15.PlaceNeeds", spec := "placeNeeds", unfollowed := true, recurses := true, plainKeys := false, apart := false }
def PlaceNeedsSaid : Prop := placeNeedsRow.holds Try.pinned (OpenSpec.ofChange placeNeedsSpec)

/-- ITS FALSE NEIGHBOUR: 'it returns false'. Refute it at one input. -/
def placeNeedsWrong : ChangeSpec := { name := "placeNeeds", fn := fun _ => fun
  | [d] => { results := [.lit (.bool false)], args := [d] }
  | _ => none }
def PlaceNeedsWrongFalsely : Prop := placeNeedsRow.holds Try.pinned (OpenSpec.ofChange placeNeedsWrong)

/-- 'silolaw18.FitText': WHATEVER THE INPUT: true; the input reads as it did. -/
def fitTextSpec : ChangeSpec := { name := "fitText", fn := fun _ => fun
  | [d] => { results := [.lit (.bool true)], args := [d] }
  | _ => none }
def fitTextRow : OpenClaim := { program := "ytfccghfcilccfaa", sum := "55d9db936d1d0783efcae5ea2c96a9eb8b5c0f4685f3d5d3b4728d048c8325e0", func := "silo/silolaw18.FitText", spec := "fitText", unfollowed := true, recurses := true, plainKeys := false, apart := false }
def FitTextSaid : Prop := fitTextRow.holds Try.pinned (OpenSpec.ofChange fitTextSpec)

/-- ITS FALSE NEIGHBOUR: 'it returns false'. Refute it at one input. -/
def fitTextWrong : ChangeSpec := { name := "fitText", fn := fun _ => fun
  | [d] => { results := [.lit (.bool false)], args := [d] }
  | _ => none }
def FitTextWrongFalsely : Prop := fitTextRow.holds Try.pinned (OpenSpec.ofChange fitTextWrong)

/-- 'silolaw18.FitMost': WHATEVER THE INPUT: true; the input reads as it did. -/
def fitMostSpec : ChangeSpec := { name := "fitMost", fn := fun _ => fun
  | [d] => { results := [.lit (.bool true)], args := [d] }
  | _ => none }
def fitMostRow : OpenClaim := { program := "ytfccghfcilccfaa", sum := "55d9db936d1d0783efcae5ea2c96a9eb8b5c0f4685f3d5d3b4728d048c8325e0", func := "silo/silolaw18.FitMost", spec := "fitMost", unfollowed := true, recurses := true, plainKeys := false, apart := false }
def FitMostSaid : Prop := fitMostRow.holds Try.pinned (OpenSpec.ofChange fitMostSpec)

/-- ITS FALSE NEIGHBOUR: 'it returns false'. Refute it at one input. -/
def fitMostWrong : ChangeSpec := { name := "fitMost", fn := fun _ => fun
  | [d] => { results := [.lit (.bool false)], args := [d] }
  | _ => none }
def FitMostWrongFalsely : Prop := fitMostRow.holds Try.pinned (OpenSpec.ofChange fitMostWrong)

/-- 'silolaw15.PlaceSpread': WHATEVER THE INPUT: true; the input reads as it did. -/
def placeSpreadSpec : ChangeSpec := { name := "placeSpread", fn := fun _ => fun
  | [d] => { results := [.lit (.bool true)], args := [d] }
  | _ => none }
def placeSpreadRow : OpenClaim := { program := "ytfccghfcilccfaa", sum := "55d9db936d1d0783efcae5ea2c96a9eb8b5c0f4685f3d5d3b4728d048c8325e0", func := "silo/silolaw15.PlaceSpread", spec := "placeSpread", unfollowed := true, recurses := true, plainKeys := false, apart := false }
def PlaceSpreadSaid : Prop := placeSpreadRow.holds Try.pinned (OpenSpec.ofChange placeSpreadSpec)

/-- ITS FALSE NEIGHBOUR: 'it returns false'. Refute it at one input. -/
def placeSpreadWrong : ChangeSpec := { name := "placeSpread", fn := fun _ => fun
  | [d] => { results := [.lit (.bool false)], args := [d] }
  | _ => none }
def PlaceSpreadWrongFalsely : Prop := placeSpreadRow.holds Try.pinned (OpenSpec.ofChange placeSpreadWrong)

/-- 'silolaw15.PlaceWhole': WHATEVER THE INPUT: true; the input reads as it did. -/
def placeWholeSpec : ChangeSpec := { name := "placeWhole", fn := fun _ => fun
  | [d] => { results := [.lit (.bool true)], args := [d] }
  | _ => none }
def placeWholeRow : OpenClaim := { program := "ytfccghfcilccfaa", sum := "55d9db936d1d0783efcae5ea2c96a9eb8b5c0f4685f3d5d3b4728d048c8325e0", func := "silo/silolaw15.PlaceWhole", spec := "placeWhole", unfollowed := true, recurses := true, plainKeys := false, apart := false }
def PlaceWholeSaid : Prop := placeWholeRow.holds Try.pinned (OpenSpec.ofChange placeWholeSpec)

/-- ITS FALSE NEIGHBOUR: 'it returns false'. Refute it at one input. -/
def placeWholeWrong : ChangeSpec := { name := "placeWhole", fn := fun _ => fun
  | [d] => { results := [.lit (.bool false)], args := [d] }
  | _ => none }
def PlaceWholeWrongFalsely : Prop := placeWholeRow.holds Try.pinned (OpenSpec.ofChange placeWholeWrong)

/-- 'silolaw15.PlaceMoves': WHATEVER THE INPUT: true; the input reads as it did. -/
def placeMovesSpec : ChangeSpec := { name := "placeMoves", fn := fun _ => fun
  | [d] => { results := [.lit (.bool true)], args := [d] }
  | _ => none }
def placeMovesRow : OpenClaim := { program := "ytfccghfcilccfaa", sum := "55d9db936d1d0783efcae5ea2c96a9eb8b5c0f4685f3d5d3b4728d048c8325e0", func := "silo/silolaw15.PlaceMoves", spec := "placeMoves", unfollowed := true, recurses := true, plainKeys := false, apart := false }
def PlaceMovesSaid : Prop := placeMovesRow.holds Try.pinned (OpenSpec.ofChange placeMovesSpec)

/-- ITS FALSE NEIGHBOUR: 'it returns false'. Refute it at one input. -/
def placeMovesWrong : ChangeSpec := { name := "placeMoves", fn := fun _ => fun
  | [d] => { results := [.lit (.bool false)], args := [d] }
  | _ => none }
def PlaceMovesWrongFalsely : Prop := placeMovesRow.holds Try.pinned (OpenSpec.ofChange placeMovesWrong)

/-- 'silolaw11.SlotsBack': WHATEVER THE INPUT: true; the input reads as it did. -/
def slotsBackSpec : ChangeSpec := { name := "slotsBack", fn := fun _ => fun
  | [d] => { results := [.lit (.bool true)], args := [d] }
  | _ => none }
def slotsBackRow : OpenClaim := { program := "ytfccghfcilccfaa", sum := "55d9db936d1d0783efcae5ea2c96a9eb8b5c0f4685f3d5d3b4728d048c8325e0", func := "silo/silolaw11.SlotsBack", spec := "slotsBack", inPlace := ["slices.overlaps[int]"], unfollowed := true, recurses := true, plainKeys := false, apart := false }
def SlotsBackSaid : Prop := slotsBackRow.holds Try.pinned (OpenSpec.ofChange slotsBackSpec)

/-- ITS FALSE NEIGHBOUR: 'it returns false'. Refute it at one input. -/
def slotsBackWrong : ChangeSpec := { name := "slotsBack", fn := fun _ => fun
  | [d] => { results := [.lit (.bool false)], args := [d] }
  | _ => none }
def SlotsBackWrongFalsely : Prop := slotsBackRow.holds Try.pinned (OpenSpec.ofChange slotsBackWrong)

/-- 'silolaw11.SlotsExact': WHATEVER THE INPUT: true; the input reads as it did. -/
def slotsExactSpec : ChangeSpec := { name := "slotsExact", fn := fun _ => fun
  | [d] => { results := [.lit (.bool true)], args := [d] }
  | _ => none }
def slotsExactRow : OpenClaim := { program := "ytfccghfcilccfaa", sum := "55d9db936d1d0783efcae5ea2c96a9eb8b5c0f4685f3d5d3b4728d048c8325e0", func := "silo/silolaw11.SlotsExact", spec := "slotsExact", inPlace := ["slices.overlaps[int]"], unfollowed := true, recurses := true, plainKeys := false, apart := false }
def SlotsExactSaid : Prop := slotsExactRow.holds Try.pinned (OpenSpec.ofChange slotsExactSpec)

/-- ITS FALSE NEIGHBOUR: 'it returns false'. Refute it at one input. -/
def slotsExactWrong : ChangeSpec := { name := "slotsExact", fn := fun _ => fun
  | [d] => { results := [.lit (.bool false)], args := [d] }
  | _ => none }
def SlotsExactWrongFalsely : Prop := slotsExactRow.holds Try.pinned (OpenSpec.ofChange slotsExactWrong)

/-- 'silolaw11.SlotsTakes': WHATEVER THE INPUT: true; the input reads as it did. -/
def slotsTakesSpec : ChangeSpec := { name := "slotsTakes", fn := fun _ => fun
  | [d] => { results := [.lit (.bool true)], args := [d] }
  | _ => none }
def slotsTakesRow : OpenClaim := { program := "ytfccghfcilccfaa", sum := "55d9db936d1d0783efcae5ea2c96a9eb8b5c0f4685f3d5d3b4728d048c8325e0", func := "silo/silolaw11.SlotsTakes", spec := "slotsTakes", inPlace := ["slices.overlaps[int]"], unfollowed := true, recurses := true, plainKeys := false, apart := false }
def SlotsTakesSaid : Prop := slotsTakesRow.holds Try.pinned (OpenSpec.ofChange slotsTakesSpec)

/-- ITS FALSE NEIGHBOUR: 'it returns false'. Refute it at one input. -/
def slotsTakesWrong : ChangeSpec := { name := "slotsTakes", fn := fun _ => fun
  | [d] => { results := [.lit (.bool false)], args := [d] }
  | _ => none }
def SlotsTakesWrongFalsely : Prop := slotsTakesRow.holds Try.pinned (OpenSpec.ofChange slotsTakesWrong)

/-- 'silolaw11.SlotsGives': WHATEVER THE INPUT: true; the input reads as it did. -/
def slotsGivesSpec : ChangeSpec := { name := "slotsGives", fn := fun _ => fun
  | [d] => { results := [.lit (.bool true)], args := [d] }
  | _ => none }
def slotsGivesRow : OpenClaim := { program := "ytfccghfcilccfaa", sum := "55d9db936d1d0783efcae5ea2c96a9eb8b5c0f4685f3d5d3b4728d048c8325e0", func := "silo/silolaw11.SlotsGives", spec := "slotsGives", inPlace := ["slices.overlaps[int]"], unfollowed := true, recurses := true, plainKeys := false, apart := false }
def SlotsGivesSaid : Prop := slotsGivesRow.holds Try.pinned (OpenSpec.ofChange slotsGivesSpec)

/-- ITS FALSE NEIGHBOUR: 'it returns false'. Refute it at one input. -/
def slotsGivesWrong : ChangeSpec := { name := "slotsGives", fn := fun _ => fun
  | [d] => { results := [.lit (.bool false)], args := [d] }
  | _ => none }
def SlotsGivesWrongFalsely : Prop := slotsGivesRow.holds Try.pinned (OpenSpec.ofChange slotsGivesWrong)

/-- 'silolaw11.SlotsLives': WHATEVER THE INPUT: true; the input reads as it did. -/
def slotsLivesSpec : ChangeSpec := { name := "slotsLives", fn := fun _ => fun
  | [d] => { results := [.lit (.bool true)], args := [d] }
  | _ => none }
def slotsLivesRow : OpenClaim := { program := "ytfccghfcilccfaa", sum := "55d9db936d1d0783efcae5ea2c96a9eb8b5c0f4685f3d5d3b4728d048c8325e0", func := "silo/silolaw11.SlotsLives", spec := "slotsLives", inPlace := ["slices.overlaps[int]"], unfollowed := true, recurses := true, plainKeys := false, apart := false }
def SlotsLivesSaid : Prop := slotsLivesRow.holds Try.pinned (OpenSpec.ofChange slotsLivesSpec)

/-- ITS FALSE NEIGHBOUR: 'it returns false'. Refute it at one input. -/
def slotsLivesWrong : ChangeSpec := { name := "slotsLives", fn := fun _ => fun
  | [d] => { results := [.lit (.bool false)], args := [d] }
  | _ => none }
def SlotsLivesWrongFalsely : Prop := slotsLivesRow.holds Try.pinned (OpenSpec.ofChange slotsLivesWrong)

/-- 'silolaw16.BookBack': WHATEVER THE INPUT: true; the input reads as it did. -/
def bookBackSpec : ChangeSpec := { name := "bookBack", fn := fun _ => fun
  | [d] => { results := [.lit (.bool true)], args := [d] }
  | _ => none }
def bookBackRow : OpenClaim := { program := "ytfccghfcilccfaa", sum := "55d9db936d1d0783efcae5ea2c96a9eb8b5c0f4685f3d5d3b4728d048c8325e0", func := "silo/silolaw16.BookBack", spec := "bookBack", inPlace := ["slices.overlaps[silo/api.Stripe]", "internal/bytealg.abigen_runtime_cmpstring", "slices.overlaps[silo/api.Entry]", "slices.overlaps[silo/api.Tag]"], unfollowed := true, recurses := true, plainKeys := false, apart := false }
def BookBackSaid : Prop := bookBackRow.holds Try.pinned (OpenSpec.ofChange bookBackSpec)

/-- ITS FALSE NEIGHBOUR: 'it returns false'. Refute it at one input. -/
def bookBackWrong : ChangeSpec := { name := "bookBack", fn := fun _ => fun
  | [d] => { results := [.lit (.bool false)], args := [d] }
  | _ => none }
def BookBackWrongFalsely : Prop := bookBackRow.holds Try.pinned (OpenSpec.ofChange bookBackWrong)

/- THE SECOND FORM. 'bulk': how many values and letters a reading holds, each counted each time it is reached (what is shared counts as often as it is met; a slice's spare places count too). A statement '..UptoSaid' is the law's where the arguments, and the package variables that the reading takes, are together of bulk at most 1048576: NARROWER than '..Said'. Prove '..Said' where nothing that the law and all that it calls make is longer than what came in: it says more and counts as full. Else prove '..UptoSaid'. A law counts once. -/
mutual
def uptoBulk {H : Type} : DataW H → Nat
  | .lit (.string bytes) => bytes.length + 1
  | .lit _ => 1
  | .nil => 1
  | .ptr d => uptoBulk d + 1
  | .slice elems spare => uptoBulkAll elems + uptoBulkAll spare + 1
  | .agg parts => uptoBulkAll parts + 1
  | .iface _ d => uptoBulk d + 1
  | .map entries => uptoBulkEntries entries + 1
  | .held _ => 1
def uptoBulkAll {H : Type} : List (DataW H) → Nat
  | [] => 0
  | d :: r => uptoBulk d + uptoBulkAll r
def uptoBulkEntries {H : Type} : List (Lit × DataW H) → Nat
  | [] => 0
  | x :: r => uptoBulkEntry x + uptoBulkEntries r
def uptoBulkEntry {H : Type} : Lit × DataW H → Nat
  | (.string bytes, d) => bytes.length + uptoBulk d + 1
  | (_, d) => uptoBulk d + 1
 end
def uptoSmall : (H : Type) → List (DataW H) → Bool := fun _ ds => decide (uptoBulkAll ds ≤ 1048576)
def OpenSpec.upto (s : _root_.Go.ChangeSpec) : _root_.Go.OpenSpec := { _root_.Go.OpenSpec.ofChange s with cond := some uptoSmall }

/-- 'silolaw17.RotaNext', WHERE WHAT IT READS IS OF BULK AT MOST 1048576: true; the input reads as it did. -/
def rotaNextUptoRow : OpenClaim := { program := "ytfccghfcilccfaa", sum := "55d9db936d1d0783efcae5ea2c96a9eb8b5c0f4685f3d5d3b4728d048c8325e0", func := "silo/silolaw17.RotaNext", spec := "rotaNext", unfollowed := true, recurses := true, plainKeys := false, apart := false, narrowed := true }
def RotaNextUptoSaid : Prop := rotaNextUptoRow.holds Try.pinned (OpenSpec.upto rotaNextSpec)

/-- 'silolaw17.RotaRound', WHERE WHAT IT READS IS OF BULK AT MOST 1048576: true; the input reads as it did. -/
def rotaRoundUptoRow : OpenClaim := { program := "ytfccghfcilccfaa", sum := "55d9db936d1d0783efcae5ea2c96a9eb8b5c0f4685f3d5d3b4728d048c8325e0", func := "silo/silolaw17.RotaRound", spec := "rotaRound", unfollowed := true, recurses := true, plainKeys := false, apart := false, narrowed := true }
def RotaRoundUptoSaid : Prop := rotaRoundUptoRow.holds Try.pinned (OpenSpec.upto rotaRoundSpec)

/-- 'silolaw18.FitTurns', WHERE WHAT IT READS IS OF BULK AT MOST 1048576: true; the input reads as it did. -/
def fitTurnsUptoRow : OpenClaim := { program := "ytfccghfcilccfaa", sum := "55d9db936d1d0783efcae5ea2c96a9eb8b5c0f4685f3d5d3b4728d048c8325e0", func := "silo/silolaw18.FitTurns", spec := "fitTurns", unfollowed := true, recurses := true, plainKeys := false, apart := false, narrowed := true }
def FitTurnsUptoSaid : Prop := fitTurnsUptoRow.holds Try.pinned (OpenSpec.upto fitTurnsSpec)

/-- 'silolaw15.PlaceNeeds', WHERE WHAT IT READS IS OF BULK AT MOST 1048576: true; the input reads as it did. -/
def placeNeedsUptoRow : OpenClaim := { program := "ytfccghfcilccfaa", sum := "55d9db936d1d0783efcae5ea2c96a9eb8b5c0f4685f3d5d3b4728d048c8325e0", func := "silo/silolaw15.PlaceNeeds", spec := "placeNeeds", unfollowed := true, recurses := true, plainKeys := false, apart := false, narrowed := true }
def PlaceNeedsUptoSaid : Prop := placeNeedsUptoRow.holds Try.pinned (OpenSpec.upto placeNeedsSpec)

/-- 'silolaw18.FitText', WHERE WHAT IT READS IS OF BULK AT MOST 1048576: true; the input reads as it did. -/
def fitTextUptoRow : OpenClaim := { program := "ytfccghfcilccfaa", sum := "55d9db936d1d0783efcae5ea2c96a9eb8b5c0f4685f3d5d3b4728d048c8325e0", func := "silo/silolaw18.FitText", spec := "fitText", unfollowed := true, recurses := true, plainKeys := false, apart := false, narrowed := true }
def FitTextUptoSaid : Prop := fitTextUptoRow.holds Try.pinned (OpenSpec.upto fitTextSpec)

/-- 'silolaw18.FitMost', WHERE WHAT IT READS IS OF BULK AT MOST 1048576: true; the input reads as it did. -/
def fitMostUptoRow : OpenClaim := { program := "ytfccghfcilccfaa", sum := "55d9db936d1d0783efcae5ea2c96a9eb8b5c0f4685f3d5d3b4728d048c8325e0", func := "silo/silolaw18.FitMost", spec := "fitMost", unfollowed := true, recurses := true, plainKeys := false, apart := false, narrowed := true }
def FitMostUptoSaid : Prop := fitMostUptoRow.holds Try.pinned (OpenSpec.upto fitMostSpec)

/-- 'silolaw15.PlaceSpread', WHERE WHAT IT READS IS OF BULK AT MOST 1048576: true; the input reads as it did. -/
def placeSpreadUptoRow : OpenClaim := { program := "ytfccghfcilccfaa", sum := "55d9db936d1d0783efcae5ea2c96a9eb8b5c0f4685f3d5d3b4728d048c8325e0", func := "silo/silolaw15.PlaceSpread", spec := "placeSpread", unfollowed := true, recurses := true, plainKeys := false, apart := false, narrowed := true }
def PlaceSpreadUptoSaid : Prop := placeSpreadUptoRow.holds Try.pinned (OpenSpec.upto placeSpreadSpec)

/-- 'silolaw15.PlaceWhole', WHERE WHAT IT READS IS OF BULK AT MOST 1048576: true; the input reads as it did. -/
def placeWholeUptoRow : OpenClaim := { program := "ytfccghfcilccfaa", sum := "55d9db936d1d0783efcae5ea2c96a9eb8b5c0f4685f3d5d3b4728d048c8325e0", func := "silo/silolaw15.PlaceWhole", spec := "placeWhole", unfollowed := true, recurses := true, plainKeys := false, apart := false, narrowed := true }
def PlaceWholeUptoSaid : Prop := placeWholeUptoRow.holds Try.pinned (OpenSpec.upto placeWholeSpec)

/-- 'silolaw15.PlaceMoves', WHERE WHAT IT READS IS OF BULK AT MOST 1048576: true; the input reads as it did. -/
def placeMovesUptoRow : OpenClaim := { program := "ytfccghfcilccfaa", sum := "55d9db936d1d0783efcae5ea2c96a9eb8b5c0f4685f3d5d3b4728d048c8325e0", func := "silo/silolaw15.PlaceMoves", spec := "placeMoves", unfollowed := true, recurses := true, plainKeys := false, apart := false, narrowed := true }
def PlaceMovesUptoSaid : Prop := placeMovesUptoRow.holds Try.pinned (OpenSpec.upto placeMovesSpec)

/-- 'silolaw11.SlotsBack', WHERE WHAT IT READS IS OF BULK AT MOST 1048576: true; the input reads as it did. -/
def slotsBackUptoRow : OpenClaim := { program := "ytfccghfcilccfaa", sum := "55d9db936d1d0783efcae5ea2c96a9eb8b5c0f4685f3d5d3b4728d048c8325e0", func := "silo/silolaw11.SlotsBack", spec := "slotsBack", inPlace := ["slices.overlaps[int]"], unfollowed := true, recurses := true, plainKeys := false, apart := false, narrowed := true }
def SlotsBackUptoSaid : Prop := slotsBackUptoRow.holds Try.pinned (OpenSpec.upto slotsBackSpec)

/-- 'silolaw11.SlotsExact', WHERE WHAT IT READS IS OF BULK AT MOST 1048576: true; the input reads as it did. -/
def slotsExactUptoRow : OpenClaim := { program := "ytfccghfcilccfaa", sum := "55d9db936d1d0783efcae5ea2c96a9eb8b5c0f4685f3d5d3b4728d048c8325e0", func := "silo/silolaw11.SlotsExact", spec := "slotsExact", inPlace := ["slices.overlaps[int]"], unfollowed := true, recurses := true, plainKeys := false, apart := false, narrowed := true }
def SlotsExactUptoSaid : Prop := slotsExactUptoRow.holds Try.pinned (OpenSpec.upto slotsExactSpec)

/-- 'silolaw11.SlotsTakes', WHERE WHAT IT READS IS OF BULK AT MOST 1048576: true; the input reads as it did. -/
def slotsTakesUptoRow : OpenClaim := { program := "ytfccghfcilccfaa", sum := "55d9db936d1d0783efcae5ea2c96a9eb8b5c0f4685f3d5d3b4728d048c8325e0", func := "silo/silolaw11.SlotsTakes", spec := "slotsTakes", inPlace := ["slices.overlaps[int]"], unfollowed := true, recurses := true, plainKeys := false, apart := false, narrowed := true }
def SlotsTakesUptoSaid : Prop := slotsTakesUptoRow.holds Try.pinned (OpenSpec.upto slotsTakesSpec)

/-- 'silolaw11.SlotsGives', WHERE WHAT IT READS IS OF BULK AT MOST 1048576: true; the input reads as it did. -/
def slotsGivesUptoRow : OpenClaim := { program := "ytfccghfcilccfaa", sum := "55d9db936d1d0783efcae5ea2c96a9eb8b5c0f4685f3d5d3b4728d048c8325e0", func := "silo/silolaw11.SlotsGives", spec := "slotsGives", inPlace := ["slices.overlaps[int]"], unfollowed := true, recurses := true, plainKeys := false, apart := false, narrowed := true }
def SlotsGivesUptoSaid : Prop := slotsGivesUptoRow.holds Try.pinned (OpenSpec.upto slotsGivesSpec)

/-- 'silolaw11.SlotsLives', WHERE WHAT IT READS IS OF BULK AT MOST 1048576: true; the input reads as it did. -/
def slotsLivesUptoRow : OpenClaim := { program := "ytfccghfcilccfaa", sum := "55d9db936d1d0783efcae5ea2c96a9eb8b5c0f4685f3d5d3b4728d048c8325e0", func := "silo/silolaw11.SlotsLives", spec := "slotsLives", inPlace := ["slices.overlaps[int]"], unfollowed := true, recurses := true, plainKeys := false, apart := false, narrowed := true }
def SlotsLivesUptoSaid : Prop := slotsLivesUptoRow.holds Try.pinned (OpenSpec.upto slotsLivesSpec)

/-- 'silolaw16.BookBack', WHERE WHAT IT READS IS OF BULK AT MOST 1048576: true; the input reads as it did. -/
def bookBackUptoRow : OpenClaim := { program := "ytfccghfcilccfaa", sum := "55d9db936d1d0783efcae5ea2c96a9eb8b5c0f4685f3d5d3b4728d048c8325e0", func := "silo/silolaw16.BookBack", spec := "bookBack", inPlace := ["slices.overlaps[silo/api.Stripe]", "internal/bytealg.abigen_runtime_cmpstring", "slices.overlaps[silo/api.Entry]", "slices.overlaps[silo/api.Tag]"], unfollowed := true, recurses := true, plainKeys := false, apart := false, narrowed := true }
def BookBackUptoSaid : Prop := bookBackUptoRow.holds Try.pinned (OpenSpec.upto bookBackSpec)

end Rows
end Go.Proofs.Ytfccghfcilccfaa
