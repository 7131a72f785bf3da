/-
  No cell of these rows narrows 'for every input' (looked for: loops, veiled, ifaces, maps, wideKeys, modest, calm, conditions, laid).
  DERIVED. THE GIVEN ROWS OF THIS SEAT. 17 by the template 'for every input the law returns true; each argument reads behind the call as it read before'; 0 by the template 'total and deterministic' (their statements: YthfcnojmfinokaaTotals.lean).
  GIVEN WITH THE SEED: the statements are not yours to turn. If you find one false, say at which input.
  Laid BY PROGRAM, IN A SANDBOX (cutbox-rows.mjs): the forced cells as the released guide's own fill.sh prints them over the translation f365d08a83144b4b… (all of the seat's roots in one cut). By AI agents, Wed Nov 11 2026. No macro, syntax, notation, axiom, sorry.
-/
import Derived.Test.YthfcnojmfinokaaChecked
import GoSem.Claim
import GoSem.ClaimJoined
import GoSem.ClaimMapViews
import Derived.JoinedTies
import Derived.KernelRfl
namespace Go.Proofs.Ythfcnojmfinokaa
/- THE CELL 'sum', in the pinned program and in every row, IS THE sha256 OF THE DUMP (.gsa) THAT YthfcnojmfinokaaProg.lean LOADS. Nothing in Lean hashes anything: it is a label: what it is worth is what the hold of that sum in a sandbox is worth. -/
noncomputable def Try.pinned : Pinned := { name := "ythfcnojmfinokaa", sum := "f365d08a83144b4b7851c917a521f00fe1f183191cb7dd70fe2bec9199892707", checked := Try.checked }
namespace Rows
def none {H : Type} : Left H := { results := [], args := [] }

/-- 'laws.FnExactIsSpoke': WHATEVER THE INPUT: true; the input reads as it did. -/
def fnExactIsSpokeSpec : ChangeSpec := { name := "fnExactIsSpoke", fn := fun _ => fun
  | [d1, d2] => { results := [.lit (.bool true)], args := [d1, d2] }
  | _ => none }
def fnExactIsSpokeRow : OpenClaim := { program := "ythfcnojmfinokaa", sum := "f365d08a83144b4b7851c917a521f00fe1f183191cb7dd70fe2bec9199892707", func := "loop.example/g01235/laws.FnExactIsSpoke", spec := "fnExactIsSpoke", unfollowed := true, recurses := true, apart := false }
def FnExactIsSpokeSaid : Prop := fnExactIsSpokeRow.holds Try.pinned (OpenSpec.ofChange fnExactIsSpokeSpec)

/-- ITS FALSE NEIGHBOUR: 'it returns false'. Refute it at one input. -/
def fnExactIsSpokeWrong : ChangeSpec := { name := "fnExactIsSpoke", fn := fun _ => fun
  | [d1, d2] => { results := [.lit (.bool false)], args := [d1, d2] }
  | _ => none }
def FnExactIsSpokeWrongFalsely : Prop := fnExactIsSpokeRow.holds Try.pinned (OpenSpec.ofChange fnExactIsSpokeWrong)

/-- 'laws.FnExactCountSpokes': WHATEVER THE INPUT: true; the input reads as it did. -/
def fnExactCountSpokesSpec : ChangeSpec := { name := "fnExactCountSpokes", fn := fun _ => fun
  | [d] => { results := [.lit (.bool true)], args := [d] }
  | _ => none }
def fnExactCountSpokesRow : OpenClaim := { program := "ythfcnojmfinokaa", sum := "f365d08a83144b4b7851c917a521f00fe1f183191cb7dd70fe2bec9199892707", func := "loop.example/g01235/laws.FnExactCountSpokes", spec := "fnExactCountSpokes", unfollowed := true, recurses := true, apart := false }
def FnExactCountSpokesSaid : Prop := fnExactCountSpokesRow.holds Try.pinned (OpenSpec.ofChange fnExactCountSpokesSpec)

/-- ITS FALSE NEIGHBOUR: 'it returns false'. Refute it at one input. -/
def fnExactCountSpokesWrong : ChangeSpec := { name := "fnExactCountSpokes", fn := fun _ => fun
  | [d] => { results := [.lit (.bool false)], args := [d] }
  | _ => none }
def FnExactCountSpokesWrongFalsely : Prop := fnExactCountSpokesRow.holds Try.pinned (OpenSpec.ofChange fnExactCountSpokesWrong)

/-- 'laws.FnExactIsSymmetric': WHATEVER THE INPUT: true; the input reads as it did. -/
def fnExactIsSymmetricSpec : ChangeSpec := { name := "fnExactIsSymmetric", fn := fun _ => fun
  | [d] => { results := [.lit (.bool true)], args := [d] }
  | _ => none }
def fnExactIsSymmetricRow : OpenClaim := { program := "ythfcnojmfinokaa", sum := "f365d08a83144b4b7851c917a521f00fe1f183191cb7dd70fe2bec9199892707", func := "loop.example/g01235/laws.FnExactIsSymmetric", spec := "fnExactIsSymmetric", unfollowed := true, recurses := true, apart := false }
def FnExactIsSymmetricSaid : Prop := fnExactIsSymmetricRow.holds Try.pinned (OpenSpec.ofChange fnExactIsSymmetricSpec)

/-- ITS FALSE NEIGHBOUR: 'it returns false'. Refute it at one input. -/
def fnExactIsSymmetricWrong : ChangeSpec := { name := "fnExactIsSymmetric", fn := fun _ => fun
  | [d] => { results := [.lit (.bool false)], args := [d] }
  | _ => none }
def FnExactIsSymmetricWrongFalsely : Prop := fnExactIsSymmetricRow.holds Try.pinned (OpenSpec.ofChange fnExactIsSymmetricWrong)

/-- 'laws.FnExactSpokeNear': WHATEVER THE INPUT: true; the input reads as it did. -/
def fnExactSpokeNearSpec : ChangeSpec := { name := "fnExactSpokeNear", fn := fun _ => fun
  | [d1, d2] => { results := [.lit (.bool true)], args := [d1, d2] }
  | _ => none }
def fnExactSpokeNearRow : OpenClaim := { program := "ythfcnojmfinokaa", sum := "f365d08a83144b4b7851c917a521f00fe1f183191cb7dd70fe2bec9199892707", func := "loop.example/g01235/laws.FnExactSpokeNear", spec := "fnExactSpokeNear", unfollowed := true, recurses := true, apart := false }
def FnExactSpokeNearSaid : Prop := fnExactSpokeNearRow.holds Try.pinned (OpenSpec.ofChange fnExactSpokeNearSpec)

/-- ITS FALSE NEIGHBOUR: 'it returns false'. Refute it at one input. -/
def fnExactSpokeNearWrong : ChangeSpec := { name := "fnExactSpokeNear", fn := fun _ => fun
  | [d1, d2] => { results := [.lit (.bool false)], args := [d1, d2] }
  | _ => none }
def FnExactSpokeNearWrongFalsely : Prop := fnExactSpokeNearRow.holds Try.pinned (OpenSpec.ofChange fnExactSpokeNearWrong)

/-- 'laws.FnExactSpokeOfRank': WHATEVER THE INPUT: true; the input reads as it did. -/
def fnExactSpokeOfRankSpec : ChangeSpec := { name := "fnExactSpokeOfRank", fn := fun _ => fun
  | [d1, d2] => { results := [.lit (.bool true)], args := [d1, d2] }
  | _ => none }
def fnExactSpokeOfRankRow : OpenClaim := { program := "ythfcnojmfinokaa", sum := "f365d08a83144b4b7851c917a521f00fe1f183191cb7dd70fe2bec9199892707", func := "loop.example/g01235/laws.FnExactSpokeOfRank", spec := "fnExactSpokeOfRank", unfollowed := true, recurses := true, apart := false }
def FnExactSpokeOfRankSaid : Prop := fnExactSpokeOfRankRow.holds Try.pinned (OpenSpec.ofChange fnExactSpokeOfRankSpec)

/-- ITS FALSE NEIGHBOUR: 'it returns false'. Refute it at one input. -/
def fnExactSpokeOfRankWrong : ChangeSpec := { name := "fnExactSpokeOfRank", fn := fun _ => fun
  | [d1, d2] => { results := [.lit (.bool false)], args := [d1, d2] }
  | _ => none }
def FnExactSpokeOfRankWrongFalsely : Prop := fnExactSpokeOfRankRow.holds Try.pinned (OpenSpec.ofChange fnExactSpokeOfRankWrong)

/-- 'laws.FnExactLeastPeriod': WHATEVER THE INPUT: true; the input reads as it did. -/
def fnExactLeastPeriodSpec : ChangeSpec := { name := "fnExactLeastPeriod", fn := fun _ => fun
  | [d] => { results := [.lit (.bool true)], args := [d] }
  | _ => none }
def fnExactLeastPeriodRow : OpenClaim := { program := "ythfcnojmfinokaa", sum := "f365d08a83144b4b7851c917a521f00fe1f183191cb7dd70fe2bec9199892707", func := "loop.example/g01235/laws.FnExactLeastPeriod", spec := "fnExactLeastPeriod", unfollowed := true, recurses := true, apart := false }
def FnExactLeastPeriodSaid : Prop := fnExactLeastPeriodRow.holds Try.pinned (OpenSpec.ofChange fnExactLeastPeriodSpec)

/-- ITS FALSE NEIGHBOUR: 'it returns false'. Refute it at one input. -/
def fnExactLeastPeriodWrong : ChangeSpec := { name := "fnExactLeastPeriod", fn := fun _ => fun
  | [d] => { results := [.lit (.bool false)], args := [d] }
  | _ => none }
def FnExactLeastPeriodWrongFalsely : Prop := fnExactLeastPeriodRow.holds Try.pinned (OpenSpec.ofChange fnExactLeastPeriodWrong)

/-- 'laws.FnExactTimesTogether': WHATEVER THE INPUT: true; the input reads as it did. -/
def fnExactTimesTogetherSpec : ChangeSpec := { name := "fnExactTimesTogether", fn := fun _ => fun
  | [d1, d2] => { results := [.lit (.bool true)], args := [d1, d2] }
  | _ => none }
def fnExactTimesTogetherRow : OpenClaim := { program := "ythfcnojmfinokaa", sum := "f365d08a83144b4b7851c917a521f00fe1f183191cb7dd70fe2bec9199892707", func := "loop.example/g01235/laws.FnExactTimesTogether", spec := "fnExactTimesTogether", unfollowed := true, recurses := true, apart := false }
def FnExactTimesTogetherSaid : Prop := fnExactTimesTogetherRow.holds Try.pinned (OpenSpec.ofChange fnExactTimesTogetherSpec)

/-- ITS FALSE NEIGHBOUR: 'it returns false'. Refute it at one input. -/
def fnExactTimesTogetherWrong : ChangeSpec := { name := "fnExactTimesTogether", fn := fun _ => fun
  | [d1, d2] => { results := [.lit (.bool false)], args := [d1, d2] }
  | _ => none }
def FnExactTimesTogetherWrongFalsely : Prop := fnExactTimesTogetherRow.holds Try.pinned (OpenSpec.ofChange fnExactTimesTogetherWrong)

/-- 'laws.FnExactRankOfSpoke': WHATEVER THE INPUT: true; the input reads as it did. -/
def fnExactRankOfSpokeSpec : ChangeSpec := { name := "fnExactRankOfSpoke", fn := fun _ => fun
  | [d1, d2] => { results := [.lit (.bool true)], args := [d1, d2] }
  | _ => none }
def fnExactRankOfSpokeRow : OpenClaim := { program := "ythfcnojmfinokaa", sum := "f365d08a83144b4b7851c917a521f00fe1f183191cb7dd70fe2bec9199892707", func := "loop.example/g01235/laws.FnExactRankOfSpoke", spec := "fnExactRankOfSpoke", unfollowed := true, recurses := true, apart := false }
def FnExactRankOfSpokeSaid : Prop := fnExactRankOfSpokeRow.holds Try.pinned (OpenSpec.ofChange fnExactRankOfSpokeSpec)

/-- ITS FALSE NEIGHBOUR: 'it returns false'. Refute it at one input. -/
def fnExactRankOfSpokeWrong : ChangeSpec := { name := "fnExactRankOfSpoke", fn := fun _ => fun
  | [d1, d2] => { results := [.lit (.bool false)], args := [d1, d2] }
  | _ => none }
def FnExactRankOfSpokeWrongFalsely : Prop := fnExactRankOfSpokeRow.holds Try.pinned (OpenSpec.ofChange fnExactRankOfSpokeWrong)

/-- 'laws.FnExactCountStep': WHATEVER THE INPUT: true; the input reads as it did. -/
def fnExactCountStepSpec : ChangeSpec := { name := "fnExactCountStep", fn := fun _ => fun
  | [d1, d2] => { results := [.lit (.bool true)], args := [d1, d2] }
  | _ => none }
def fnExactCountStepRow : OpenClaim := { program := "ythfcnojmfinokaa", sum := "f365d08a83144b4b7851c917a521f00fe1f183191cb7dd70fe2bec9199892707", func := "loop.example/g01235/laws.FnExactCountStep", spec := "fnExactCountStep", unfollowed := true, recurses := true, apart := false }
def FnExactCountStepSaid : Prop := fnExactCountStepRow.holds Try.pinned (OpenSpec.ofChange fnExactCountStepSpec)

/-- ITS FALSE NEIGHBOUR: 'it returns false'. Refute it at one input. -/
def fnExactCountStepWrong : ChangeSpec := { name := "fnExactCountStep", fn := fun _ => fun
  | [d1, d2] => { results := [.lit (.bool false)], args := [d1, d2] }
  | _ => none }
def FnExactCountStepWrongFalsely : Prop := fnExactCountStepRow.holds Try.pinned (OpenSpec.ofChange fnExactCountStepWrong)

/-- 'laws.FnExactSpokesOf': WHATEVER THE INPUT: true; the input reads as it did. -/
def fnExactSpokesOfSpec : ChangeSpec := { name := "fnExactSpokesOf", fn := fun _ => fun
  | [d] => { results := [.lit (.bool true)], args := [d] }
  | _ => none }
def fnExactSpokesOfRow : OpenClaim := { program := "ythfcnojmfinokaa", sum := "f365d08a83144b4b7851c917a521f00fe1f183191cb7dd70fe2bec9199892707", func := "loop.example/g01235/laws.FnExactSpokesOf", spec := "fnExactSpokesOf", unfollowed := true, recurses := true, apart := false }
def FnExactSpokesOfSaid : Prop := fnExactSpokesOfRow.holds Try.pinned (OpenSpec.ofChange fnExactSpokesOfSpec)

/-- ITS FALSE NEIGHBOUR: 'it returns false'. Refute it at one input. -/
def fnExactSpokesOfWrong : ChangeSpec := { name := "fnExactSpokesOf", fn := fun _ => fun
  | [d] => { results := [.lit (.bool false)], args := [d] }
  | _ => none }
def FnExactSpokesOfWrongFalsely : Prop := fnExactSpokesOfRow.holds Try.pinned (OpenSpec.ofChange fnExactSpokesOfWrong)

/-- 'laws.FnExactLongestStep': WHATEVER THE INPUT: true; the input reads as it did. -/
def fnExactLongestStepSpec : ChangeSpec := { name := "fnExactLongestStep", fn := fun _ => fun
  | [d] => { results := [.lit (.bool true)], args := [d] }
  | _ => none }
def fnExactLongestStepRow : OpenClaim := { program := "ythfcnojmfinokaa", sum := "f365d08a83144b4b7851c917a521f00fe1f183191cb7dd70fe2bec9199892707", func := "loop.example/g01235/laws.FnExactLongestStep", spec := "fnExactLongestStep", unfollowed := true, recurses := true, apart := false }
def FnExactLongestStepSaid : Prop := fnExactLongestStepRow.holds Try.pinned (OpenSpec.ofChange fnExactLongestStepSpec)

/-- ITS FALSE NEIGHBOUR: 'it returns false'. Refute it at one input. -/
def fnExactLongestStepWrong : ChangeSpec := { name := "fnExactLongestStep", fn := fun _ => fun
  | [d] => { results := [.lit (.bool false)], args := [d] }
  | _ => none }
def FnExactLongestStepWrongFalsely : Prop := fnExactLongestStepRow.holds Try.pinned (OpenSpec.ofChange fnExactLongestStepWrong)

/-- 'laws.FnExactStepsOf': WHATEVER THE INPUT: true; the input reads as it did. -/
def fnExactStepsOfSpec : ChangeSpec := { name := "fnExactStepsOf", fn := fun _ => fun
  | [d] => { results := [.lit (.bool true)], args := [d] }
  | _ => none }
def fnExactStepsOfRow : OpenClaim := { program := "ythfcnojmfinokaa", sum := "f365d08a83144b4b7851c917a521f00fe1f183191cb7dd70fe2bec9199892707", func := "loop.example/g01235/laws.FnExactStepsOf", spec := "fnExactStepsOf", unfollowed := true, recurses := true, apart := false }
def FnExactStepsOfSaid : Prop := fnExactStepsOfRow.holds Try.pinned (OpenSpec.ofChange fnExactStepsOfSpec)

/-- ITS FALSE NEIGHBOUR: 'it returns false'. Refute it at one input. -/
def fnExactStepsOfWrong : ChangeSpec := { name := "fnExactStepsOf", fn := fun _ => fun
  | [d] => { results := [.lit (.bool false)], args := [d] }
  | _ => none }
def FnExactStepsOfWrongFalsely : Prop := fnExactStepsOfRow.holds Try.pinned (OpenSpec.ofChange fnExactStepsOfWrong)

/-- 'laws.FnExactRollWheel': WHATEVER THE INPUT: true; the input reads as it did. -/
def fnExactRollWheelSpec : ChangeSpec := { name := "fnExactRollWheel", fn := fun _ => fun
  | [d1, d2] => { results := [.lit (.bool true)], args := [d1, d2] }
  | _ => none }
def fnExactRollWheelRow : OpenClaim := { program := "ythfcnojmfinokaa", sum := "f365d08a83144b4b7851c917a521f00fe1f183191cb7dd70fe2bec9199892707", func := "loop.example/g01235/laws.FnExactRollWheel", spec := "fnExactRollWheel", unfollowed := true, recurses := true, apart := false }
def FnExactRollWheelSaid : Prop := fnExactRollWheelRow.holds Try.pinned (OpenSpec.ofChange fnExactRollWheelSpec)

/-- ITS FALSE NEIGHBOUR: 'it returns false'. Refute it at one input. -/
def fnExactRollWheelWrong : ChangeSpec := { name := "fnExactRollWheel", fn := fun _ => fun
  | [d1, d2] => { results := [.lit (.bool false)], args := [d1, d2] }
  | _ => none }
def FnExactRollWheelWrongFalsely : Prop := fnExactRollWheelRow.holds Try.pinned (OpenSpec.ofChange fnExactRollWheelWrong)

/-- 'laws.FnExactFirstRun': WHATEVER THE INPUT: true; the input reads as it did. -/
def fnExactFirstRunSpec : ChangeSpec := { name := "fnExactFirstRun", fn := fun _ => fun
  | [d1, d2] => { results := [.lit (.bool true)], args := [d1, d2] }
  | _ => none }
def fnExactFirstRunRow : OpenClaim := { program := "ythfcnojmfinokaa", sum := "f365d08a83144b4b7851c917a521f00fe1f183191cb7dd70fe2bec9199892707", func := "loop.example/g01235/laws.FnExactFirstRun", spec := "fnExactFirstRun", unfollowed := true, recurses := true, apart := false }
def FnExactFirstRunSaid : Prop := fnExactFirstRunRow.holds Try.pinned (OpenSpec.ofChange fnExactFirstRunSpec)

/-- ITS FALSE NEIGHBOUR: 'it returns false'. Refute it at one input. -/
def fnExactFirstRunWrong : ChangeSpec := { name := "fnExactFirstRun", fn := fun _ => fun
  | [d1, d2] => { results := [.lit (.bool false)], args := [d1, d2] }
  | _ => none }
def FnExactFirstRunWrongFalsely : Prop := fnExactFirstRunRow.holds Try.pinned (OpenSpec.ofChange fnExactFirstRunWrong)

/-- 'laws.FnStepsAround': WHATEVER THE INPUT: true; the input reads as it did. -/
def fnStepsAroundSpec : ChangeSpec := { name := "fnStepsAround", fn := fun _ => fun
  | [d1, d2] => { results := [.lit (.bool true)], args := [d1, d2] }
  | _ => none }
def fnStepsAroundRow : OpenClaim := { program := "ythfcnojmfinokaa", sum := "f365d08a83144b4b7851c917a521f00fe1f183191cb7dd70fe2bec9199892707", func := "loop.example/g01235/laws.FnStepsAround", spec := "fnStepsAround", unfollowed := true, recurses := true, apart := false }
def FnStepsAroundSaid : Prop := fnStepsAroundRow.holds Try.pinned (OpenSpec.ofChange fnStepsAroundSpec)

/-- ITS FALSE NEIGHBOUR: 'it returns false'. Refute it at one input. -/
def fnStepsAroundWrong : ChangeSpec := { name := "fnStepsAround", fn := fun _ => fun
  | [d1, d2] => { results := [.lit (.bool false)], args := [d1, d2] }
  | _ => none }
def FnStepsAroundWrongFalsely : Prop := fnStepsAroundRow.holds Try.pinned (OpenSpec.ofChange fnStepsAroundWrong)

/-- 'laws.FnWheelsTurnOfAll': WHATEVER THE INPUT: true; the input reads as it did. -/
def fnWheelsTurnOfAllSpec : ChangeSpec := { name := "fnWheelsTurnOfAll", fn := fun _ => fun
  | [d1, d2] => { results := [.lit (.bool true)], args := [d1, d2] }
  | _ => none }
def fnWheelsTurnOfAllRow : OpenClaim := { program := "ythfcnojmfinokaa", sum := "f365d08a83144b4b7851c917a521f00fe1f183191cb7dd70fe2bec9199892707", func := "loop.example/g01235/laws.FnWheelsTurnOfAll", spec := "fnWheelsTurnOfAll", unfollowed := true, recurses := true, apart := false }
def FnWheelsTurnOfAllSaid : Prop := fnWheelsTurnOfAllRow.holds Try.pinned (OpenSpec.ofChange fnWheelsTurnOfAllSpec)

/-- ITS FALSE NEIGHBOUR: 'it returns false'. Refute it at one input. -/
def fnWheelsTurnOfAllWrong : ChangeSpec := { name := "fnWheelsTurnOfAll", fn := fun _ => fun
  | [d1, d2] => { results := [.lit (.bool false)], args := [d1, d2] }
  | _ => none }
def FnWheelsTurnOfAllWrongFalsely : Prop := fnWheelsTurnOfAllRow.holds Try.pinned (OpenSpec.ofChange fnWheelsTurnOfAllWrong)

/-- 'laws.FnWheelsTurn': WHATEVER THE INPUT: true; the input reads as it did. -/
def fnWheelsTurnSpec : ChangeSpec := { name := "fnWheelsTurn", fn := fun _ => fun
  | [d1, d2] => { results := [.lit (.bool true)], args := [d1, d2] }
  | _ => none }
def fnWheelsTurnRow : OpenClaim := { program := "ythfcnojmfinokaa", sum := "f365d08a83144b4b7851c917a521f00fe1f183191cb7dd70fe2bec9199892707", func := "loop.example/g01235/laws.FnWheelsTurn", spec := "fnWheelsTurn", unfollowed := true, recurses := true, apart := false }
def FnWheelsTurnSaid : Prop := fnWheelsTurnRow.holds Try.pinned (OpenSpec.ofChange fnWheelsTurnSpec)

/-- ITS FALSE NEIGHBOUR: 'it returns false'. Refute it at one input. -/
def fnWheelsTurnWrong : ChangeSpec := { name := "fnWheelsTurn", fn := fun _ => fun
  | [d1, d2] => { results := [.lit (.bool false)], args := [d1, d2] }
  | _ => none }
def FnWheelsTurnWrongFalsely : Prop := fnWheelsTurnRow.holds Try.pinned (OpenSpec.ofChange fnWheelsTurnWrong)

/- THE SECOND FORM. 'bulk': how many values and letters a reading holds, each counted each time it is reached (what is shared counts as often as it is met; a slice's spare places count too). A statement '..UptoSaid' is the law's where the arguments, and the package variables that the reading takes, are together of bulk at most 1048576: NARROWER than '..Said'. Prove '..Said' where nothing that the law and all that it calls make is longer than what came in: it says more and counts as full. Else prove '..UptoSaid'. A law counts once. -/
mutual
def uptoBulk {H : Type} : DataW H → Nat
  | .lit (.string bytes) => bytes.length + 1
  | .lit _ => 1
  | .nil => 1
  | .ptr d => uptoBulk d + 1
  | .slice elems spare => uptoBulkAll elems + uptoBulkAll spare + 1
  | .agg parts => uptoBulkAll parts + 1
  | .iface _ d => uptoBulk d + 1
  | .map entries => uptoBulkEntries entries + 1
  | .held _ => 1
def uptoBulkAll {H : Type} : List (DataW H) → Nat
  | [] => 0
  | d :: r => uptoBulk d + uptoBulkAll r
def uptoBulkEntries {H : Type} : List (Lit × DataW H) → Nat
  | [] => 0
  | x :: r => uptoBulkEntry x + uptoBulkEntries r
def uptoBulkEntry {H : Type} : Lit × DataW H → Nat
  | (.string bytes, d) => bytes.length + uptoBulk d + 1
  | (_, d) => uptoBulk d + 1
 end
def uptoSmall : (H : Type) → List (DataW H) → Bool := fun _ ds => decide (uptoBulkAll ds ≤ 1048576)
def OpenSpec.upto (s : _root_.Go.ChangeSpec) : _root_.Go.OpenSpec := { _root_.Go.OpenSpec.ofChange s with cond := some uptoSmall }

/-- 'laws.FnExactIsSpoke', WHERE WHAT IT READS IS OF BULK AT MOST 1048576: true; the input reads as it did. -/
def fnExactIsSpokeUptoRow : OpenClaim := { program := "ythfcnojmfinokaa", sum := "f365d08a83144b4b7851c917a521f00fe1f183191cb7dd70fe2bec9199892707", func := "loop.example/g01235/laws.FnExactIsSpoke", spec := "fnExactIsSpoke", unfollowed := true, recurses := true, apart := false, narrowed := true }
def FnExactIsSpokeUptoSaid : Prop := fnExactIsSpokeUptoRow.holds Try.pinned (OpenSpec.upto fnExactIsSpokeSpec)

/-- 'laws.FnExactCountSpokes', WHERE WHAT IT READS IS OF BULK AT MOST 1048576: true; the input reads as it did. -/
def fnExactCountSpokesUptoRow : OpenClaim := { program := "ythfcnojmfinokaa", sum := "f365d08a83144b4b7851c917a521f00fe1f183191cb7dd70fe2bec9199892707", func := "loop.example/g01235/laws.FnExactCountSpokes", spec := "fnExactCountSpokes", unfollowed := true, recurses := true, apart := false, narrowed := true }
def FnExactCountSpokesUptoSaid : Prop := fnExactCountSpokesUptoRow.holds Try.pinned (OpenSpec.upto fnExactCountSpokesSpec)

/-- 'laws.FnExactIsSymmetric', WHERE WHAT IT READS IS OF BULK AT MOST 1048576: true; the input reads as it did. -/
def fnExactIsSymmetricUptoRow : OpenClaim := { program := "ythfcnojmfinokaa", sum := "f365d08a83144b4b7851c917a521f00fe1f183191cb7dd70fe2bec9199892707", func := "loop.example/g01235/laws.FnExactIsSymmetric", spec := "fnExactIsSymmetric", unfollowed := true, recurses := true, apart := false, narrowed := true }
def FnExactIsSymmetricUptoSaid : Prop := fnExactIsSymmetricUptoRow.holds Try.pinned (OpenSpec.upto fnExactIsSymmetricSpec)

/-- 'laws.FnExactSpokeNear', WHERE WHAT IT READS IS OF BULK AT MOST 1048576: true; the input reads as it did. -/
def fnExactSpokeNearUptoRow : OpenClaim := { program := "ythfcnojmfinokaa", sum := "f365d08a83144b4b7851c917a521f00fe1f183191cb7dd70fe2bec9199892707", func := "loop.example/g01235/laws.FnExactSpokeNear", spec := "fnExactSpokeNear", unfollowed := true, recurses := true, apart := false, narrowed := true }
def FnExactSpokeNearUptoSaid : Prop := fnExactSpokeNearUptoRow.holds Try.pinned (OpenSpec.upto fnExactSpokeNearSpec)

/-- 'laws.FnExactSpokeOfRank', WHERE WHAT IT READS IS OF BULK AT MOST 1048576: true; the input reads as it did. -/
def fnExactSpokeOfRankUptoRow : OpenClaim := { program := "ythfcnojmfinokaa", sum := "f365d08a83144b4b7851c917a521f00fe1f183191cb7dd70fe2bec9199892707", func := "loop.example/g01235/laws.FnExactSpokeOfRank", spec := "fnExactSpokeOfRank", unfollowed := true, recurses := true, apart := false, narrowed := true }
def FnExactSpokeOfRankUptoSaid : Prop := fnExactSpokeOfRankUptoRow.holds Try.pinned (OpenSpec.upto fnExactSpokeOfRankSpec)

/-- 'laws.FnExactLeastPeriod', WHERE WHAT IT READS IS OF BULK AT MOST 1048576: true; the input reads as it did. -/
def fnExactLeastPeriodUptoRow : OpenClaim := { program := "ythfcnojmfinokaa", sum := "f365d08a83144b4b7851c917a521f00fe1f183191cb7dd70fe2bec9199892707", func := "loop.example/g01235/laws.FnExactLeastPeriod", spec := "fnExactLeastPeriod", unfollowed := true, recurses := true, apart := false, narrowed := true }
def FnExactLeastPeriodUptoSaid : Prop := fnExactLeastPeriodUptoRow.holds Try.pinned (OpenSpec.upto fnExactLeastPeriodSpec)

/-- 'laws.FnExactTimesTogether', WHERE WHAT IT READS IS OF BULK AT MOST 1048576: true; the input reads as it did. -/
def fnExactTimesTogetherUptoRow : OpenClaim := { program := "ythfcnojmfinokaa", sum := "f365d08a83144b4b7851c917a521f00fe1f183191cb7dd70fe2bec9199892707", func := "loop.example/g01235/laws.FnExactTimesTogether", spec := "fnExactTimesTogether", unfollowed := true, recurses := true, apart := false, narrowed := true }
def FnExactTimesTogetherUptoSaid : Prop := fnExactTimesTogetherUptoRow.holds Try.pinned (OpenSpec.upto fnExactTimesTogetherSpec)

/-- 'laws.FnExactRankOfSpoke', WHERE WHAT IT READS IS OF BULK AT MOST 1048576: true; the input reads as it did. -/
def fnExactRankOfSpokeUptoRow : OpenClaim := { program := "ythfcnojmfinokaa", sum := "f365d08a83144b4b7851c917a521f00fe1f183191cb7dd70fe2bec9199892707", func := "loop.example/g01235/laws.FnExactRankOfSpoke", spec := "fnExactRankOfSpoke", unfollowed := true, recurses := true, apart := false, narrowed := true }
def FnExactRankOfSpokeUptoSaid : Prop := fnExactRankOfSpokeUptoRow.holds Try.pinned (OpenSpec.upto fnExactRankOfSpokeSpec)

/-- 'laws.FnExactCountStep', WHERE WHAT IT READS IS OF BULK AT MOST 1048576: true; the input reads as it did. -/
def fnExactCountStepUptoRow : OpenClaim := { program := "ythfcnojmfinokaa", sum := "f365d08a83144b4b7851c917a521f00fe1f183191cb7dd70fe2bec9199892707", func := "loop.example/g01235/laws.FnExactCountStep", spec := "fnExactCountStep", unfollowed := true, recurses := true, apart := false, narrowed := true }
def FnExactCountStepUptoSaid : Prop := fnExactCountStepUptoRow.holds Try.pinned (OpenSpec.upto fnExactCountStepSpec)

/-- 'laws.FnExactSpokesOf', WHERE WHAT IT READS IS OF BULK AT MOST 1048576: true; the input reads as it did. -/
def fnExactSpokesOfUptoRow : OpenClaim := { program := "ythfcnojmfinokaa", sum := "f365d08a83144b4b7851c917a521f00fe1f183191cb7dd70fe2bec9199892707", func := "loop.example/g01235/laws.FnExactSpokesOf", spec := "fnExactSpokesOf", unfollowed := true, recurses := true, apart := false, narrowed := true }
def FnExactSpokesOfUptoSaid : Prop := fnExactSpokesOfUptoRow.holds Try.pinned (OpenSpec.upto fnExactSpokesOfSpec)

/-- 'laws.FnExactLongestStep', WHERE WHAT IT READS IS OF BULK AT MOST 1048576: true; the input reads as it did. -/
def fnExactLongestStepUptoRow : OpenClaim := { program := "ythfcnojmfinokaa", sum := "f365d08a83144b4b7851c917a521f00fe1f183191cb7dd70fe2bec9199892707", func := "loop.example/g01235/laws.FnExactLongestStep", spec := "fnExactLongestStep", unfollowed := true, recurses := true, apart := false, narrowed := true }
def FnExactLongestStepUptoSaid : Prop := fnExactLongestStepUptoRow.holds Try.pinned (OpenSpec.upto fnExactLongestStepSpec)

/-- 'laws.FnExactStepsOf', WHERE WHAT IT READS IS OF BULK AT MOST 1048576: true; the input reads as it did. -/
def fnExactStepsOfUptoRow : OpenClaim := { program := "ythfcnojmfinokaa", sum := "f365d08a83144b4b7851c917a521f00fe1f183191cb7dd70fe2bec9199892707", func := "loop.example/g01235/laws.FnExactStepsOf", spec := "fnExactStepsOf", unfollowed := true, recurses := true, apart := false, narrowed := true }
def FnExactStepsOfUptoSaid : Prop := fnExactStepsOfUptoRow.holds Try.pinned (OpenSpec.upto fnExactStepsOfSpec)

/-- 'laws.FnExactRollWheel', WHERE WHAT IT READS IS OF BULK AT MOST 1048576: true; the input reads as it did. -/
def fnExactRollWheelUptoRow : OpenClaim := { program := "ythfcnojmfinokaa", sum := "f365d08a83144b4b7851c917a521f00fe1f183191cb7dd70fe2bec9199892707", func := "loop.example/g01235/laws.FnExactRollWheel", spec := "fnExactRollWheel", unfollowed := true, recurses := true, apart := false, narrowed := true }
def FnExactRollWheelUptoSaid : Prop := fnExactRollWheelUptoRow.holds Try.pinned (OpenSpec.upto fnExactRollWheelSpec)

/-- 'laws.FnExactFirstRun', WHERE WHAT IT READS IS OF BULK AT MOST 1048576: true; the input reads as it did. -/
def fnExactFirstRunUptoRow : OpenClaim := { program := "ythfcnojmfinokaa", sum := "f365d08a83144b4b7851c917a521f00fe1f183191cb7dd70fe2bec9199892707", func := "loop.example/g01235/laws.FnExactFirstRun", spec := "fnExactFirstRun", unfollowed := true, recurses := true, apart := false, narrowed := true }
def FnExactFirstRunUptoSaid : Prop := fnExactFirstRunUptoRow.holds Try.pinned (OpenSpec.upto fnExactFirstRunSpec)

/-- 'laws.FnStepsAround', WHERE WHAT IT READS IS OF BULK AT MOST 1048576: true; the input reads as it did. -/
def fnStepsAroundUptoRow : OpenClaim := { program := "ythfcnojmfinokaa", sum := "f365d08a83144b4b7851c917a521f00fe1f183191cb7dd70fe2bec9199892707", func := "loop.example/g01235/laws.FnStepsAround", spec := "fnStepsAround", unfollowed := true, recurses := true, apart := false, narrowed := true }
def FnStepsAroundUptoSaid : Prop := fnStepsAroundUptoRow.holds Try.pinned (OpenSpec.upto fnStepsAroundSpec)

/-- 'laws.FnWheelsTurnOfAll', WHERE WHAT IT READS IS OF BULK AT MOST 1048576: true; the input reads as it did. -/
def fnWheelsTurnOfAllUptoRow : OpenClaim := { program := "ythfcnojmfinokaa", sum := "f365d08a83144b4b7851c917a521f00fe1f183191cb7dd70fe2bec9199892707", func := "loop.example/g01235/laws.FnWheelsTurnOfAll", spec := "fnWheelsTurnOfAll", unfollowed := true, recurses := true, apart := false, narrowed := true }
def FnWheelsTurnOfAllUptoSaid : Prop := fnWheelsTurnOfAllUptoRow.holds Try.pinned (OpenSpec.upto fnWheelsTurnOfAllSpec)

/-- 'laws.FnWheelsTurn', WHERE WHAT IT READS IS OF BULK AT MOST 1048576: true; the input reads as it did. -/
def fnWheelsTurnUptoRow : OpenClaim := { program := "ythfcnojmfinokaa", sum := "f365d08a83144b4b7851c917a521f00fe1f183191cb7dd70fe2bec9199892707", func := "loop.example/g01235/laws.FnWheelsTurn", spec := "fnWheelsTurn", unfollowed := true, recurses := true, apart := false, narrowed := true }
def FnWheelsTurnUptoSaid : Prop := fnWheelsTurnUptoRow.holds Try.pinned (OpenSpec.upto fnWheelsTurnSpec)

end Rows
end Go.Proofs.Ythfcnojmfinokaa
