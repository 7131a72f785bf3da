/-
  No cell of these rows narrows 'for every input' (looked for: loops, veiled, ifaces, maps, wideKeys, modest, calm, conditions, laid).
  DERIVED. THE GIVEN ROWS OF THIS SEAT. 12 by the template 'for every input the law returns true; each argument reads behind the call as it read before'; 0 by the template 'total and deterministic' (their statements: YtgnoijgknjehfaaTotals.lean).
  GIVEN WITH THE SEED: the statements are not yours to turn. If you find one false, say at which input.
  Laid BY PROGRAM, IN A SANDBOX (cutbox-rows.mjs): the forced cells as the released guide's own fill.sh prints them over the translation 476c6c13e0dade5f… (all of the seat's roots in one cut). By AI agents, Wed Nov 11 2026. No macro, syntax, notation, axiom, sorry.
-/
import Derived.Test.YtgnoijgknjehfaaChecked
import GoSem.Claim
import GoSem.ClaimJoined
import GoSem.ClaimMapViews
import Derived.JoinedTies
import Derived.KernelRfl
namespace Go.Proofs.Ytgnoijgknjehfaa
/- THE CELL 'sum', in the pinned program and in every row, IS THE sha256 OF THE DUMP (.gsa) THAT YtgnoijgknjehfaaProg.lean LOADS. Nothing in Lean hashes anything: it is a label: what it is worth is what the hold of that sum in a sandbox is worth. -/
noncomputable def Try.pinned : Pinned := { name := "ytgnoijgknjehfaa", sum := "476c6c13e0dade5f36b34fc84a267b3e724b6c6b82539f03e910948fa8359c96", checked := Try.checked }
namespace Rows
def none {H : Type} : Left H := { results := [], args := [] }

/-- 'laws.FnExactIsPattern': WHATEVER THE INPUT: true; the input reads as it did. -/
def fnExactIsPatternSpec : ChangeSpec := { name := "fnExactIsPattern", fn := fun _ => fun
  | [d] => { results := [.lit (.bool true)], args := [d] }
  | _ => none }
def fnExactIsPatternRow : OpenClaim := { program := "ytgnoijgknjehfaa", sum := "476c6c13e0dade5f36b34fc84a267b3e724b6c6b82539f03e910948fa8359c96", func := "loop.example/g01235/laws.FnExactIsPattern", spec := "fnExactIsPattern", apart := false }
def FnExactIsPatternSaid : Prop := fnExactIsPatternRow.holds Try.pinned (OpenSpec.ofChange fnExactIsPatternSpec)

/-- ITS FALSE NEIGHBOUR: 'it returns false'. Refute it at one input. -/
def fnExactIsPatternWrong : ChangeSpec := { name := "fnExactIsPattern", fn := fun _ => fun
  | [d] => { results := [.lit (.bool false)], args := [d] }
  | _ => none }
def FnExactIsPatternWrongFalsely : Prop := fnExactIsPatternRow.holds Try.pinned (OpenSpec.ofChange fnExactIsPatternWrong)

/-- 'laws.FnExactRadicalOf': WHATEVER THE INPUT: true; the input reads as it did. -/
def fnExactRadicalOfSpec : ChangeSpec := { name := "fnExactRadicalOf", fn := fun _ => fun
  | [d] => { results := [.lit (.bool true)], args := [d] }
  | _ => none }
def fnExactRadicalOfRow : OpenClaim := { program := "ytgnoijgknjehfaa", sum := "476c6c13e0dade5f36b34fc84a267b3e724b6c6b82539f03e910948fa8359c96", func := "loop.example/g01235/laws.FnExactRadicalOf", spec := "fnExactRadicalOf", apart := false }
def FnExactRadicalOfSaid : Prop := fnExactRadicalOfRow.holds Try.pinned (OpenSpec.ofChange fnExactRadicalOfSpec)

/-- ITS FALSE NEIGHBOUR: 'it returns false'. Refute it at one input. -/
def fnExactRadicalOfWrong : ChangeSpec := { name := "fnExactRadicalOf", fn := fun _ => fun
  | [d] => { results := [.lit (.bool false)], args := [d] }
  | _ => none }
def FnExactRadicalOfWrongFalsely : Prop := fnExactRadicalOfRow.holds Try.pinned (OpenSpec.ofChange fnExactRadicalOfWrong)

/-- 'laws.FnExactBackPattern': WHATEVER THE INPUT: true; the input reads as it did. -/
def fnExactBackPatternSpec : ChangeSpec := { name := "fnExactBackPattern", fn := fun _ => fun
  | [d] => { results := [.lit (.bool true)], args := [d] }
  | _ => none }
def fnExactBackPatternRow : OpenClaim := { program := "ytgnoijgknjehfaa", sum := "476c6c13e0dade5f36b34fc84a267b3e724b6c6b82539f03e910948fa8359c96", func := "loop.example/g01235/laws.FnExactBackPattern", spec := "fnExactBackPattern", apart := false }
def FnExactBackPatternSaid : Prop := fnExactBackPatternRow.holds Try.pinned (OpenSpec.ofChange fnExactBackPatternSpec)

/-- ITS FALSE NEIGHBOUR: 'it returns false'. Refute it at one input. -/
def fnExactBackPatternWrong : ChangeSpec := { name := "fnExactBackPattern", fn := fun _ => fun
  | [d] => { results := [.lit (.bool false)], args := [d] }
  | _ => none }
def FnExactBackPatternWrongFalsely : Prop := fnExactBackPatternRow.holds Try.pinned (OpenSpec.ofChange fnExactBackPatternWrong)

/-- 'laws.FnExactPrimesBetween': WHATEVER THE INPUT: true; the input reads as it did. -/
def fnExactPrimesBetweenSpec : ChangeSpec := { name := "fnExactPrimesBetween", fn := fun _ => fun
  | [d1, d2] => { results := [.lit (.bool true)], args := [d1, d2] }
  | _ => none }
def fnExactPrimesBetweenRow : OpenClaim := { program := "ytgnoijgknjehfaa", sum := "476c6c13e0dade5f36b34fc84a267b3e724b6c6b82539f03e910948fa8359c96", func := "loop.example/g01235/laws.FnExactPrimesBetween", spec := "fnExactPrimesBetween", apart := false }
def FnExactPrimesBetweenSaid : Prop := fnExactPrimesBetweenRow.holds Try.pinned (OpenSpec.ofChange fnExactPrimesBetweenSpec)

/-- ITS FALSE NEIGHBOUR: 'it returns false'. Refute it at one input. -/
def fnExactPrimesBetweenWrong : ChangeSpec := { name := "fnExactPrimesBetween", fn := fun _ => fun
  | [d1, d2] => { results := [.lit (.bool false)], args := [d1, d2] }
  | _ => none }
def FnExactPrimesBetweenWrongFalsely : Prop := fnExactPrimesBetweenRow.holds Try.pinned (OpenSpec.ofChange fnExactPrimesBetweenWrong)

/-- 'laws.FnExactCountWithout': WHATEVER THE INPUT: true; the input reads as it did. -/
def fnExactCountWithoutSpec : ChangeSpec := { name := "fnExactCountWithout", fn := fun _ => fun
  | [d1, d2] => { results := [.lit (.bool true)], args := [d1, d2] }
  | _ => none }
def fnExactCountWithoutRow : OpenClaim := { program := "ytgnoijgknjehfaa", sum := "476c6c13e0dade5f36b34fc84a267b3e724b6c6b82539f03e910948fa8359c96", func := "loop.example/g01235/laws.FnExactCountWithout", spec := "fnExactCountWithout", unfollowed := true, recurses := true, apart := false }
def FnExactCountWithoutSaid : Prop := fnExactCountWithoutRow.holds Try.pinned (OpenSpec.ofChange fnExactCountWithoutSpec)

/-- ITS FALSE NEIGHBOUR: 'it returns false'. Refute it at one input. -/
def fnExactCountWithoutWrong : ChangeSpec := { name := "fnExactCountWithout", fn := fun _ => fun
  | [d1, d2] => { results := [.lit (.bool false)], args := [d1, d2] }
  | _ => none }
def FnExactCountWithoutWrongFalsely : Prop := fnExactCountWithoutRow.holds Try.pinned (OpenSpec.ofChange fnExactCountWithoutWrong)

/-- 'laws.FnExactStepSizes': WHATEVER THE INPUT: true; the input reads as it did. -/
def fnExactStepSizesSpec : ChangeSpec := { name := "fnExactStepSizes", fn := fun _ => fun
  | [d] => { results := [.lit (.bool true)], args := [d] }
  | _ => none }
def fnExactStepSizesRow : OpenClaim := { program := "ytgnoijgknjehfaa", sum := "476c6c13e0dade5f36b34fc84a267b3e724b6c6b82539f03e910948fa8359c96", func := "loop.example/g01235/laws.FnExactStepSizes", spec := "fnExactStepSizes", unfollowed := true, recurses := true, apart := false }
def FnExactStepSizesSaid : Prop := fnExactStepSizesRow.holds Try.pinned (OpenSpec.ofChange fnExactStepSizesSpec)

/-- ITS FALSE NEIGHBOUR: 'it returns false'. Refute it at one input. -/
def fnExactStepSizesWrong : ChangeSpec := { name := "fnExactStepSizes", fn := fun _ => fun
  | [d] => { results := [.lit (.bool false)], args := [d] }
  | _ => none }
def FnExactStepSizesWrongFalsely : Prop := fnExactStepSizesRow.holds Try.pinned (OpenSpec.ofChange fnExactStepSizesWrong)

/-- 'laws.FnExactCrossersUpTo': WHATEVER THE INPUT: true; the input reads as it did. -/
def fnExactCrossersUpToSpec : ChangeSpec := { name := "fnExactCrossersUpTo", fn := fun _ => fun
  | [d] => { results := [.lit (.bool true)], args := [d] }
  | _ => none }
def fnExactCrossersUpToRow : OpenClaim := { program := "ytgnoijgknjehfaa", sum := "476c6c13e0dade5f36b34fc84a267b3e724b6c6b82539f03e910948fa8359c96", func := "loop.example/g01235/laws.FnExactCrossersUpTo", spec := "fnExactCrossersUpTo", unfollowed := true, recurses := true, apart := false }
def FnExactCrossersUpToSaid : Prop := fnExactCrossersUpToRow.holds Try.pinned (OpenSpec.ofChange fnExactCrossersUpToSpec)

/-- ITS FALSE NEIGHBOUR: 'it returns false'. Refute it at one input. -/
def fnExactCrossersUpToWrong : ChangeSpec := { name := "fnExactCrossersUpTo", fn := fun _ => fun
  | [d] => { results := [.lit (.bool false)], args := [d] }
  | _ => none }
def FnExactCrossersUpToWrongFalsely : Prop := fnExactCrossersUpToRow.holds Try.pinned (OpenSpec.ofChange fnExactCrossersUpToWrong)

/-- 'laws.FnExactTwinsUpTo': WHATEVER THE INPUT: true; the input reads as it did. -/
def fnExactTwinsUpToSpec : ChangeSpec := { name := "fnExactTwinsUpTo", fn := fun _ => fun
  | [d] => { results := [.lit (.bool true)], args := [d] }
  | _ => none }
def fnExactTwinsUpToRow : OpenClaim := { program := "ytgnoijgknjehfaa", sum := "476c6c13e0dade5f36b34fc84a267b3e724b6c6b82539f03e910948fa8359c96", func := "loop.example/g01235/laws.FnExactTwinsUpTo", spec := "fnExactTwinsUpTo", unfollowed := true, recurses := true, apart := false }
def FnExactTwinsUpToSaid : Prop := fnExactTwinsUpToRow.holds Try.pinned (OpenSpec.ofChange fnExactTwinsUpToSpec)

/-- ITS FALSE NEIGHBOUR: 'it returns false'. Refute it at one input. -/
def fnExactTwinsUpToWrong : ChangeSpec := { name := "fnExactTwinsUpTo", fn := fun _ => fun
  | [d] => { results := [.lit (.bool false)], args := [d] }
  | _ => none }
def FnExactTwinsUpToWrongFalsely : Prop := fnExactTwinsUpToRow.holds Try.pinned (OpenSpec.ofChange fnExactTwinsUpToWrong)

/-- 'laws.FnExactSmoothUpTo': WHATEVER THE INPUT: true; the input reads as it did. -/
def fnExactSmoothUpToSpec : ChangeSpec := { name := "fnExactSmoothUpTo", fn := fun _ => fun
  | [d1, d2] => { results := [.lit (.bool true)], args := [d1, d2] }
  | _ => none }
def fnExactSmoothUpToRow : OpenClaim := { program := "ytgnoijgknjehfaa", sum := "476c6c13e0dade5f36b34fc84a267b3e724b6c6b82539f03e910948fa8359c96", func := "loop.example/g01235/laws.FnExactSmoothUpTo", spec := "fnExactSmoothUpTo", apart := false }
def FnExactSmoothUpToSaid : Prop := fnExactSmoothUpToRow.holds Try.pinned (OpenSpec.ofChange fnExactSmoothUpToSpec)

/-- ITS FALSE NEIGHBOUR: 'it returns false'. Refute it at one input. -/
def fnExactSmoothUpToWrong : ChangeSpec := { name := "fnExactSmoothUpTo", fn := fun _ => fun
  | [d1, d2] => { results := [.lit (.bool false)], args := [d1, d2] }
  | _ => none }
def FnExactSmoothUpToWrongFalsely : Prop := fnExactSmoothUpToRow.holds Try.pinned (OpenSpec.ofChange fnExactSmoothUpToWrong)

/-- 'laws.FnExactRulesOfPrimes': WHATEVER THE INPUT: true; the input reads as it did. -/
def fnExactRulesOfPrimesSpec : ChangeSpec := { name := "fnExactRulesOfPrimes", fn := fun _ => fun
  | [d] => { results := [.lit (.bool true)], args := [d] }
  | _ => none }
def fnExactRulesOfPrimesRow : OpenClaim := { program := "ytgnoijgknjehfaa", sum := "476c6c13e0dade5f36b34fc84a267b3e724b6c6b82539f03e910948fa8359c96", func := "loop.example/g01235/laws.FnExactRulesOfPrimes", spec := "fnExactRulesOfPrimes", apart := false }
def FnExactRulesOfPrimesSaid : Prop := fnExactRulesOfPrimesRow.holds Try.pinned (OpenSpec.ofChange fnExactRulesOfPrimesSpec)

/-- ITS FALSE NEIGHBOUR: 'it returns false'. Refute it at one input. -/
def fnExactRulesOfPrimesWrong : ChangeSpec := { name := "fnExactRulesOfPrimes", fn := fun _ => fun
  | [d] => { results := [.lit (.bool false)], args := [d] }
  | _ => none }
def FnExactRulesOfPrimesWrongFalsely : Prop := fnExactRulesOfPrimesRow.holds Try.pinned (OpenSpec.ofChange fnExactRulesOfPrimesWrong)

/-- 'laws.FnExactRestsOfNumber': WHATEVER THE INPUT: true; the input reads as it did. -/
def fnExactRestsOfNumberSpec : ChangeSpec := { name := "fnExactRestsOfNumber", fn := fun _ => fun
  | [d1, d2] => { results := [.lit (.bool true)], args := [d1, d2] }
  | _ => none }
def fnExactRestsOfNumberRow : OpenClaim := { program := "ytgnoijgknjehfaa", sum := "476c6c13e0dade5f36b34fc84a267b3e724b6c6b82539f03e910948fa8359c96", func := "loop.example/g01235/laws.FnExactRestsOfNumber", spec := "fnExactRestsOfNumber", apart := false }
def FnExactRestsOfNumberSaid : Prop := fnExactRestsOfNumberRow.holds Try.pinned (OpenSpec.ofChange fnExactRestsOfNumberSpec)

/-- ITS FALSE NEIGHBOUR: 'it returns false'. Refute it at one input. -/
def fnExactRestsOfNumberWrong : ChangeSpec := { name := "fnExactRestsOfNumber", fn := fun _ => fun
  | [d1, d2] => { results := [.lit (.bool false)], args := [d1, d2] }
  | _ => none }
def FnExactRestsOfNumberWrongFalsely : Prop := fnExactRestsOfNumberRow.holds Try.pinned (OpenSpec.ofChange fnExactRestsOfNumberWrong)

/-- 'laws.FnStepsAroundOfAll': WHATEVER THE INPUT: true; the input reads as it did. -/
def fnStepsAroundOfAllSpec : ChangeSpec := { name := "fnStepsAroundOfAll", fn := fun _ => fun
  | [d1, d2, d3, d4, d5, d6, d7, d8, d9] => { results := [.lit (.bool true)], args := [d1, d2, d3, d4, d5, d6, d7, d8, d9] }
  | _ => none }
def fnStepsAroundOfAllRow : OpenClaim := { program := "ytgnoijgknjehfaa", sum := "476c6c13e0dade5f36b34fc84a267b3e724b6c6b82539f03e910948fa8359c96", func := "loop.example/g01235/laws.FnStepsAroundOfAll", spec := "fnStepsAroundOfAll", unfollowed := true, recurses := true, apart := false }
def FnStepsAroundOfAllSaid : Prop := fnStepsAroundOfAllRow.holds Try.pinned (OpenSpec.ofChange fnStepsAroundOfAllSpec)

/-- ITS FALSE NEIGHBOUR: 'it returns false'. Refute it at one input. -/
def fnStepsAroundOfAllWrong : ChangeSpec := { name := "fnStepsAroundOfAll", fn := fun _ => fun
  | [d1, d2, d3, d4, d5, d6, d7, d8, d9] => { results := [.lit (.bool false)], args := [d1, d2, d3, d4, d5, d6, d7, d8, d9] }
  | _ => none }
def FnStepsAroundOfAllWrongFalsely : Prop := fnStepsAroundOfAllRow.holds Try.pinned (OpenSpec.ofChange fnStepsAroundOfAllWrong)

/- THE SECOND FORM. 'bulk': how many values and letters a reading holds, each counted each time it is reached (what is shared counts as often as it is met; a slice's spare places count too). A statement '..UptoSaid' is the law's where the arguments, and the package variables that the reading takes, are together of bulk at most 1048576: NARROWER than '..Said'. Prove '..Said' where nothing that the law and all that it calls make is longer than what came in: it says more and counts as full. Else prove '..UptoSaid'. A law counts once. -/
mutual
def uptoBulk {H : Type} : DataW H → Nat
  | .lit (.string bytes) => bytes.length + 1
  | .lit _ => 1
  | .nil => 1
  | .ptr d => uptoBulk d + 1
  | .slice elems spare => uptoBulkAll elems + uptoBulkAll spare + 1
  | .agg parts => uptoBulkAll parts + 1
  | .iface _ d => uptoBulk d + 1
  | .map entries => uptoBulkEntries entries + 1
  | .held _ => 1
def uptoBulkAll {H : Type} : List (DataW H) → Nat
  | [] => 0
  | d :: r => uptoBulk d + uptoBulkAll r
def uptoBulkEntries {H : Type} : List (Lit × DataW H) → Nat
  | [] => 0
  | x :: r => uptoBulkEntry x + uptoBulkEntries r
def uptoBulkEntry {H : Type} : Lit × DataW H → Nat
  | (.string bytes, d) => bytes.length + uptoBulk d + 1
  | (_, d) => uptoBulk d + 1
 end
def uptoSmall : (H : Type) → List (DataW H) → Bool := fun _ ds => decide (uptoBulkAll ds ≤ 1048576)
def OpenSpec.upto (s : _root_.Go.ChangeSpec) : _root_.Go.OpenSpec := { _root_.Go.OpenSpec.ofChange s with cond := some uptoSmall }

/-- 'laws.FnExactIsPattern', WHERE WHAT IT READS IS OF BULK AT MOST 1048576: true; the input reads as it did. -/
def fnExactIsPatternUptoRow : OpenClaim := { program := "ytgnoijgknjehfaa", sum := "476c6c13e0dade5f36b34fc84a267b3e724b6c6b82539f03e910948fa8359c96", func := "loop.example/g01235/laws.FnExactIsPattern", spec := "fnExactIsPattern", apart := false, narrowed := true }
def FnExactIsPatternUptoSaid : Prop := fnExactIsPatternUptoRow.holds Try.pinned (OpenSpec.upto fnExactIsPatternSpec)

/-- 'laws.FnExactRadicalOf', WHERE WHAT IT READS IS OF BULK AT MOST 1048576: true; the input reads as it did. -/
def fnExactRadicalOfUptoRow : OpenClaim := { program := "ytgnoijgknjehfaa", sum := "476c6c13e0dade5f36b34fc84a267b3e724b6c6b82539f03e910948fa8359c96", func := "loop.example/g01235/laws.FnExactRadicalOf", spec := "fnExactRadicalOf", apart := false, narrowed := true }
def FnExactRadicalOfUptoSaid : Prop := fnExactRadicalOfUptoRow.holds Try.pinned (OpenSpec.upto fnExactRadicalOfSpec)

/-- 'laws.FnExactBackPattern', WHERE WHAT IT READS IS OF BULK AT MOST 1048576: true; the input reads as it did. -/
def fnExactBackPatternUptoRow : OpenClaim := { program := "ytgnoijgknjehfaa", sum := "476c6c13e0dade5f36b34fc84a267b3e724b6c6b82539f03e910948fa8359c96", func := "loop.example/g01235/laws.FnExactBackPattern", spec := "fnExactBackPattern", apart := false, narrowed := true }
def FnExactBackPatternUptoSaid : Prop := fnExactBackPatternUptoRow.holds Try.pinned (OpenSpec.upto fnExactBackPatternSpec)

/-- 'laws.FnExactPrimesBetween', WHERE WHAT IT READS IS OF BULK AT MOST 1048576: true; the input reads as it did. -/
def fnExactPrimesBetweenUptoRow : OpenClaim := { program := "ytgnoijgknjehfaa", sum := "476c6c13e0dade5f36b34fc84a267b3e724b6c6b82539f03e910948fa8359c96", func := "loop.example/g01235/laws.FnExactPrimesBetween", spec := "fnExactPrimesBetween", apart := false, narrowed := true }
def FnExactPrimesBetweenUptoSaid : Prop := fnExactPrimesBetweenUptoRow.holds Try.pinned (OpenSpec.upto fnExactPrimesBetweenSpec)

/-- 'laws.FnExactCountWithout', WHERE WHAT IT READS IS OF BULK AT MOST 1048576: true; the input reads as it did. -/
def fnExactCountWithoutUptoRow : OpenClaim := { program := "ytgnoijgknjehfaa", sum := "476c6c13e0dade5f36b34fc84a267b3e724b6c6b82539f03e910948fa8359c96", func := "loop.example/g01235/laws.FnExactCountWithout", spec := "fnExactCountWithout", unfollowed := true, recurses := true, apart := false, narrowed := true }
def FnExactCountWithoutUptoSaid : Prop := fnExactCountWithoutUptoRow.holds Try.pinned (OpenSpec.upto fnExactCountWithoutSpec)

/-- 'laws.FnExactStepSizes', WHERE WHAT IT READS IS OF BULK AT MOST 1048576: true; the input reads as it did. -/
def fnExactStepSizesUptoRow : OpenClaim := { program := "ytgnoijgknjehfaa", sum := "476c6c13e0dade5f36b34fc84a267b3e724b6c6b82539f03e910948fa8359c96", func := "loop.example/g01235/laws.FnExactStepSizes", spec := "fnExactStepSizes", unfollowed := true, recurses := true, apart := false, narrowed := true }
def FnExactStepSizesUptoSaid : Prop := fnExactStepSizesUptoRow.holds Try.pinned (OpenSpec.upto fnExactStepSizesSpec)

/-- 'laws.FnExactCrossersUpTo', WHERE WHAT IT READS IS OF BULK AT MOST 1048576: true; the input reads as it did. -/
def fnExactCrossersUpToUptoRow : OpenClaim := { program := "ytgnoijgknjehfaa", sum := "476c6c13e0dade5f36b34fc84a267b3e724b6c6b82539f03e910948fa8359c96", func := "loop.example/g01235/laws.FnExactCrossersUpTo", spec := "fnExactCrossersUpTo", unfollowed := true, recurses := true, apart := false, narrowed := true }
def FnExactCrossersUpToUptoSaid : Prop := fnExactCrossersUpToUptoRow.holds Try.pinned (OpenSpec.upto fnExactCrossersUpToSpec)

/-- 'laws.FnExactTwinsUpTo', WHERE WHAT IT READS IS OF BULK AT MOST 1048576: true; the input reads as it did. -/
def fnExactTwinsUpToUptoRow : OpenClaim := { program := "ytgnoijgknjehfaa", sum := "476c6c13e0dade5f36b34fc84a267b3e724b6c6b82539f03e910948fa8359c96", func := "loop.example/g01235/laws.FnExactTwinsUpTo", spec := "fnExactTwinsUpTo", unfollowed := true, recurses := true, apart := false, narrowed := true }
def FnExactTwinsUpToUptoSaid : Prop := fnExactTwinsUpToUptoRow.holds Try.pinned (OpenSpec.upto fnExactTwinsUpToSpec)

/-- 'laws.FnExactSmoothUpTo', WHERE WHAT IT READS IS OF BULK AT MOST 1048576: true; the input reads as it did. -/
def fnExactSmoothUpToUptoRow : OpenClaim := { program := "ytgnoijgknjehfaa", sum := "476c6c13e0dade5f36b34fc84a267b3e724b6c6b82539f03e910948fa8359c96", func := "loop.example/g01235/laws.FnExactSmoothUpTo", spec := "fnExactSmoothUpTo", apart := false, narrowed := true }
def FnExactSmoothUpToUptoSaid : Prop := fnExactSmoothUpToUptoRow.holds Try.pinned (OpenSpec.upto fnExactSmoothUpToSpec)

/-- 'laws.FnExactRulesOfPrimes', WHERE WHAT IT READS IS OF BULK AT MOST 1048576: true; the input reads as it did. -/
def fnExactRulesOfPrimesUptoRow : OpenClaim := { program := "ytgnoijgknjehfaa", sum := "476c6c13e0dade5f36b34fc84a267b3e724b6c6b82539f03e910948fa8359c96", func := "loop.example/g01235/laws.FnExactRulesOfPrimes", spec := "fnExactRulesOfPrimes", apart := false, narrowed := true }
def FnExactRulesOfPrimesUptoSaid : Prop := fnExactRulesOfPrimesUptoRow.holds Try.pinned (OpenSpec.upto fnExactRulesOfPrimesSpec)

/-- 'laws.FnExactRestsOfNumber', WHERE WHAT IT READS IS OF BULK AT MOST 1048576: true; the input reads as it did. -/
def fnExactRestsOfNumberUptoRow : OpenClaim := { program := "ytgnoijgknjehfaa", sum := "476c6c13e0dade5f36b34fc84a267b3e724b6c6b82539f03e910948fa8359c96", func := "loop.example/g01235/laws.FnExactRestsOfNumber", spec := "fnExactRestsOfNumber", apart := false, narrowed := true }
def FnExactRestsOfNumberUptoSaid : Prop := fnExactRestsOfNumberUptoRow.holds Try.pinned (OpenSpec.upto fnExactRestsOfNumberSpec)

/-- 'laws.FnStepsAroundOfAll', WHERE WHAT IT READS IS OF BULK AT MOST 1048576: true; the input reads as it did. -/
def fnStepsAroundOfAllUptoRow : OpenClaim := { program := "ytgnoijgknjehfaa", sum := "476c6c13e0dade5f36b34fc84a267b3e724b6c6b82539f03e910948fa8359c96", func := "loop.example/g01235/laws.FnStepsAroundOfAll", spec := "fnStepsAroundOfAll", unfollowed := true, recurses := true, apart := false, narrowed := true }
def FnStepsAroundOfAllUptoSaid : Prop := fnStepsAroundOfAllUptoRow.holds Try.pinned (OpenSpec.upto fnStepsAroundOfAllSpec)

end Rows
end Go.Proofs.Ytgnoijgknjehfaa
