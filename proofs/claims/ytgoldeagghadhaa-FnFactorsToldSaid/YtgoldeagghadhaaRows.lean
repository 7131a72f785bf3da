/-
  No cell of these rows narrows 'for every input' (looked for: loops, veiled, ifaces, maps, wideKeys, modest, calm, conditions, laid).
  DERIVED. THE GIVEN ROWS OF THIS SEAT. 11 by the template 'for every input the law returns true; each argument reads behind the call as it read before'; 0 by the template 'total and deterministic' (their statements: YtgoldeagghadhaaTotals.lean).
  GIVEN WITH THE SEED: the statements are not yours to turn. If you find one false, say at which input.
  Laid BY PROGRAM, IN A SANDBOX (cutbox-rows.mjs): the forced cells as the released guide's own fill.sh prints them over the translation cef620c913b9abd1… (all of the seat's roots in one cut). By AI agents, Wed Nov 11 2026. No macro, syntax, notation, axiom, sorry.
-/
import Derived.Test.YtgoldeagghadhaaChecked
import GoSem.Claim
import GoSem.ClaimJoined
import GoSem.ClaimMapViews
import Derived.JoinedTies
import Derived.KernelRfl
namespace Go.Proofs.Ytgoldeagghadhaa
/- THE CELL 'sum', in the pinned program and in every row, IS THE sha256 OF THE DUMP (.gsa) THAT YtgoldeagghadhaaProg.lean LOADS. Nothing in Lean hashes anything: it is a label: what it is worth is what the hold of that sum in a sandbox is worth. -/
noncomputable def Try.pinned : Pinned := { name := "ytgoldeagghadhaa", sum := "cef620c913b9abd155edb530dd97384fcabcdfbf1561dd4a3250419e4d537ed1", checked := Try.checked }
namespace Rows
def none {H : Type} : Left H := { results := [], args := [] }

/-- 'laws.FnExactRulesOfPrimes': WHATEVER THE INPUT: true; the input reads as it did. -/
def fnExactRulesOfPrimesSpec : ChangeSpec := { name := "fnExactRulesOfPrimes", fn := fun _ => fun
  | [d] => { results := [.lit (.bool true)], args := [d] }
  | _ => none }
def fnExactRulesOfPrimesRow : OpenClaim := { program := "ytgoldeagghadhaa", sum := "cef620c913b9abd155edb530dd97384fcabcdfbf1561dd4a3250419e4d537ed1", func := "loop.example/g01235/laws.FnExactRulesOfPrimes", spec := "fnExactRulesOfPrimes", apart := false }
def FnExactRulesOfPrimesSaid : Prop := fnExactRulesOfPrimesRow.holds Try.pinned (OpenSpec.ofChange fnExactRulesOfPrimesSpec)

/-- ITS FALSE NEIGHBOUR: 'it returns false'. Refute it at one input. -/
def fnExactRulesOfPrimesWrong : ChangeSpec := { name := "fnExactRulesOfPrimes", fn := fun _ => fun
  | [d] => { results := [.lit (.bool false)], args := [d] }
  | _ => none }
def FnExactRulesOfPrimesWrongFalsely : Prop := fnExactRulesOfPrimesRow.holds Try.pinned (OpenSpec.ofChange fnExactRulesOfPrimesWrong)

/-- 'laws.FnExactRestsOfNumber': WHATEVER THE INPUT: true; the input reads as it did. -/
def fnExactRestsOfNumberSpec : ChangeSpec := { name := "fnExactRestsOfNumber", fn := fun _ => fun
  | [d1, d2] => { results := [.lit (.bool true)], args := [d1, d2] }
  | _ => none }
def fnExactRestsOfNumberRow : OpenClaim := { program := "ytgoldeagghadhaa", sum := "cef620c913b9abd155edb530dd97384fcabcdfbf1561dd4a3250419e4d537ed1", func := "loop.example/g01235/laws.FnExactRestsOfNumber", spec := "fnExactRestsOfNumber", apart := false }
def FnExactRestsOfNumberSaid : Prop := fnExactRestsOfNumberRow.holds Try.pinned (OpenSpec.ofChange fnExactRestsOfNumberSpec)

/-- ITS FALSE NEIGHBOUR: 'it returns false'. Refute it at one input. -/
def fnExactRestsOfNumberWrong : ChangeSpec := { name := "fnExactRestsOfNumber", fn := fun _ => fun
  | [d1, d2] => { results := [.lit (.bool false)], args := [d1, d2] }
  | _ => none }
def FnExactRestsOfNumberWrongFalsely : Prop := fnExactRestsOfNumberRow.holds Try.pinned (OpenSpec.ofChange fnExactRestsOfNumberWrong)

/-- 'laws.FnExactCountWithout': WHATEVER THE INPUT: true; the input reads as it did. -/
def fnExactCountWithoutSpec : ChangeSpec := { name := "fnExactCountWithout", fn := fun _ => fun
  | [d1, d2] => { results := [.lit (.bool true)], args := [d1, d2] }
  | _ => none }
def fnExactCountWithoutRow : OpenClaim := { program := "ytgoldeagghadhaa", sum := "cef620c913b9abd155edb530dd97384fcabcdfbf1561dd4a3250419e4d537ed1", func := "loop.example/g01235/laws.FnExactCountWithout", spec := "fnExactCountWithout", unfollowed := true, recurses := true, apart := false }
def FnExactCountWithoutSaid : Prop := fnExactCountWithoutRow.holds Try.pinned (OpenSpec.ofChange fnExactCountWithoutSpec)

/-- ITS FALSE NEIGHBOUR: 'it returns false'. Refute it at one input. -/
def fnExactCountWithoutWrong : ChangeSpec := { name := "fnExactCountWithout", fn := fun _ => fun
  | [d1, d2] => { results := [.lit (.bool false)], args := [d1, d2] }
  | _ => none }
def FnExactCountWithoutWrongFalsely : Prop := fnExactCountWithoutRow.holds Try.pinned (OpenSpec.ofChange fnExactCountWithoutWrong)

/-- 'laws.FnExactCrossersUpTo': WHATEVER THE INPUT: true; the input reads as it did. -/
def fnExactCrossersUpToSpec : ChangeSpec := { name := "fnExactCrossersUpTo", fn := fun _ => fun
  | [d] => { results := [.lit (.bool true)], args := [d] }
  | _ => none }
def fnExactCrossersUpToRow : OpenClaim := { program := "ytgoldeagghadhaa", sum := "cef620c913b9abd155edb530dd97384fcabcdfbf1561dd4a3250419e4d537ed1", func := "loop.example/g01235/laws.FnExactCrossersUpTo", spec := "fnExactCrossersUpTo", unfollowed := true, recurses := true, apart := false }
def FnExactCrossersUpToSaid : Prop := fnExactCrossersUpToRow.holds Try.pinned (OpenSpec.ofChange fnExactCrossersUpToSpec)

/-- ITS FALSE NEIGHBOUR: 'it returns false'. Refute it at one input. -/
def fnExactCrossersUpToWrong : ChangeSpec := { name := "fnExactCrossersUpTo", fn := fun _ => fun
  | [d] => { results := [.lit (.bool false)], args := [d] }
  | _ => none }
def FnExactCrossersUpToWrongFalsely : Prop := fnExactCrossersUpToRow.holds Try.pinned (OpenSpec.ofChange fnExactCrossersUpToWrong)

/-- 'laws.FnExactTwinsUpTo': WHATEVER THE INPUT: true; the input reads as it did. -/
def fnExactTwinsUpToSpec : ChangeSpec := { name := "fnExactTwinsUpTo", fn := fun _ => fun
  | [d] => { results := [.lit (.bool true)], args := [d] }
  | _ => none }
def fnExactTwinsUpToRow : OpenClaim := { program := "ytgoldeagghadhaa", sum := "cef620c913b9abd155edb530dd97384fcabcdfbf1561dd4a3250419e4d537ed1", func := "loop.example/g01235/laws.FnExactTwinsUpTo", spec := "fnExactTwinsUpTo", unfollowed := true, recurses := true, apart := false }
def FnExactTwinsUpToSaid : Prop := fnExactTwinsUpToRow.holds Try.pinned (OpenSpec.ofChange fnExactTwinsUpToSpec)

/-- ITS FALSE NEIGHBOUR: 'it returns false'. Refute it at one input. -/
def fnExactTwinsUpToWrong : ChangeSpec := { name := "fnExactTwinsUpTo", fn := fun _ => fun
  | [d] => { results := [.lit (.bool false)], args := [d] }
  | _ => none }
def FnExactTwinsUpToWrongFalsely : Prop := fnExactTwinsUpToRow.holds Try.pinned (OpenSpec.ofChange fnExactTwinsUpToWrong)

/-- 'laws.FnExactFactorsOf': WHATEVER THE INPUT: true; the input reads as it did. -/
def fnExactFactorsOfSpec : ChangeSpec := { name := "fnExactFactorsOf", fn := fun _ => fun
  | [d] => { results := [.lit (.bool true)], args := [d] }
  | _ => none }
def fnExactFactorsOfRow : OpenClaim := { program := "ytgoldeagghadhaa", sum := "cef620c913b9abd155edb530dd97384fcabcdfbf1561dd4a3250419e4d537ed1", func := "loop.example/g01235/laws.FnExactFactorsOf", spec := "fnExactFactorsOf", apart := false }
def FnExactFactorsOfSaid : Prop := fnExactFactorsOfRow.holds Try.pinned (OpenSpec.ofChange fnExactFactorsOfSpec)

/-- ITS FALSE NEIGHBOUR: 'it returns false'. Refute it at one input. -/
def fnExactFactorsOfWrong : ChangeSpec := { name := "fnExactFactorsOf", fn := fun _ => fun
  | [d] => { results := [.lit (.bool false)], args := [d] }
  | _ => none }
def FnExactFactorsOfWrongFalsely : Prop := fnExactFactorsOfRow.holds Try.pinned (OpenSpec.ofChange fnExactFactorsOfWrong)

/-- 'laws.FnExactNumberOfFactors': WHATEVER THE INPUT: true; the input reads as it did. -/
def fnExactNumberOfFactorsSpec : ChangeSpec := { name := "fnExactNumberOfFactors", fn := fun _ => fun
  | [d] => { results := [.lit (.bool true)], args := [d] }
  | _ => none }
def fnExactNumberOfFactorsRow : OpenClaim := { program := "ytgoldeagghadhaa", sum := "cef620c913b9abd155edb530dd97384fcabcdfbf1561dd4a3250419e4d537ed1", func := "loop.example/g01235/laws.FnExactNumberOfFactors", spec := "fnExactNumberOfFactors", apart := false }
def FnExactNumberOfFactorsSaid : Prop := fnExactNumberOfFactorsRow.holds Try.pinned (OpenSpec.ofChange fnExactNumberOfFactorsSpec)

/-- ITS FALSE NEIGHBOUR: 'it returns false'. Refute it at one input. -/
def fnExactNumberOfFactorsWrong : ChangeSpec := { name := "fnExactNumberOfFactors", fn := fun _ => fun
  | [d] => { results := [.lit (.bool false)], args := [d] }
  | _ => none }
def FnExactNumberOfFactorsWrongFalsely : Prop := fnExactNumberOfFactorsRow.holds Try.pinned (OpenSpec.ofChange fnExactNumberOfFactorsWrong)

/-- 'laws.FnExactNumberWithRests': WHATEVER THE INPUT: true; the input reads as it did. -/
def fnExactNumberWithRestsSpec : ChangeSpec := { name := "fnExactNumberWithRests", fn := fun _ => fun
  | [d1, d2] => { results := [.lit (.bool true)], args := [d1, d2] }
  | _ => none }
def fnExactNumberWithRestsRow : OpenClaim := { program := "ytgoldeagghadhaa", sum := "cef620c913b9abd155edb530dd97384fcabcdfbf1561dd4a3250419e4d537ed1", func := "loop.example/g01235/laws.FnExactNumberWithRests", spec := "fnExactNumberWithRests", apart := false }
def FnExactNumberWithRestsSaid : Prop := fnExactNumberWithRestsRow.holds Try.pinned (OpenSpec.ofChange fnExactNumberWithRestsSpec)

/-- ITS FALSE NEIGHBOUR: 'it returns false'. Refute it at one input. -/
def fnExactNumberWithRestsWrong : ChangeSpec := { name := "fnExactNumberWithRests", fn := fun _ => fun
  | [d1, d2] => { results := [.lit (.bool false)], args := [d1, d2] }
  | _ => none }
def FnExactNumberWithRestsWrongFalsely : Prop := fnExactNumberWithRestsRow.holds Try.pinned (OpenSpec.ofChange fnExactNumberWithRestsWrong)

/-- 'laws.FnExactPrimePlaces': WHATEVER THE INPUT: true; the input reads as it did. -/
def fnExactPrimePlacesSpec : ChangeSpec := { name := "fnExactPrimePlaces", fn := fun _ => fun
  | [d1, d2] => { results := [.lit (.bool true)], args := [d1, d2] }
  | _ => none }
def fnExactPrimePlacesRow : OpenClaim := { program := "ytgoldeagghadhaa", sum := "cef620c913b9abd155edb530dd97384fcabcdfbf1561dd4a3250419e4d537ed1", func := "loop.example/g01235/laws.FnExactPrimePlaces", spec := "fnExactPrimePlaces", unfollowed := true, recurses := true, apart := false }
def FnExactPrimePlacesSaid : Prop := fnExactPrimePlacesRow.holds Try.pinned (OpenSpec.ofChange fnExactPrimePlacesSpec)

/-- ITS FALSE NEIGHBOUR: 'it returns false'. Refute it at one input. -/
def fnExactPrimePlacesWrong : ChangeSpec := { name := "fnExactPrimePlaces", fn := fun _ => fun
  | [d1, d2] => { results := [.lit (.bool false)], args := [d1, d2] }
  | _ => none }
def FnExactPrimePlacesWrongFalsely : Prop := fnExactPrimePlacesRow.holds Try.pinned (OpenSpec.ofChange fnExactPrimePlacesWrong)

/-- 'laws.FnFactorsToldOfAll': WHATEVER THE INPUT: true; the input reads as it did. -/
def fnFactorsToldOfAllSpec : ChangeSpec := { name := "fnFactorsToldOfAll", fn := fun _ => fun
  | [d1, d2, d3, d4] => { results := [.lit (.bool true)], args := [d1, d2, d3, d4] }
  | _ => none }
def fnFactorsToldOfAllRow : OpenClaim := { program := "ytgoldeagghadhaa", sum := "cef620c913b9abd155edb530dd97384fcabcdfbf1561dd4a3250419e4d537ed1", func := "loop.example/g01235/laws.FnFactorsToldOfAll", spec := "fnFactorsToldOfAll", apart := false }
def FnFactorsToldOfAllSaid : Prop := fnFactorsToldOfAllRow.holds Try.pinned (OpenSpec.ofChange fnFactorsToldOfAllSpec)

/-- ITS FALSE NEIGHBOUR: 'it returns false'. Refute it at one input. -/
def fnFactorsToldOfAllWrong : ChangeSpec := { name := "fnFactorsToldOfAll", fn := fun _ => fun
  | [d1, d2, d3, d4] => { results := [.lit (.bool false)], args := [d1, d2, d3, d4] }
  | _ => none }
def FnFactorsToldOfAllWrongFalsely : Prop := fnFactorsToldOfAllRow.holds Try.pinned (OpenSpec.ofChange fnFactorsToldOfAllWrong)

/-- 'laws.FnFactorsTold': WHATEVER THE INPUT: true; the input reads as it did. -/
def fnFactorsToldSpec : ChangeSpec := { name := "fnFactorsTold", fn := fun _ => fun
  | [d1, d2] => { results := [.lit (.bool true)], args := [d1, d2] }
  | _ => none }
def fnFactorsToldRow : OpenClaim := { program := "ytgoldeagghadhaa", sum := "cef620c913b9abd155edb530dd97384fcabcdfbf1561dd4a3250419e4d537ed1", func := "loop.example/g01235/laws.FnFactorsTold", spec := "fnFactorsTold", apart := false }
def FnFactorsToldSaid : Prop := fnFactorsToldRow.holds Try.pinned (OpenSpec.ofChange fnFactorsToldSpec)

/-- ITS FALSE NEIGHBOUR: 'it returns false'. Refute it at one input. -/
def fnFactorsToldWrong : ChangeSpec := { name := "fnFactorsTold", fn := fun _ => fun
  | [d1, d2] => { results := [.lit (.bool false)], args := [d1, d2] }
  | _ => none }
def FnFactorsToldWrongFalsely : Prop := fnFactorsToldRow.holds Try.pinned (OpenSpec.ofChange fnFactorsToldWrong)

/- THE SECOND FORM. 'bulk': how many values and letters a reading holds, each counted each time it is reached (what is shared counts as often as it is met; a slice's spare places count too). A statement '..UptoSaid' is the law's where the arguments, and the package variables that the reading takes, are together of bulk at most 1048576: NARROWER than '..Said'. Prove '..Said' where nothing that the law and all that it calls make is longer than what came in: it says more and counts as full. Else prove '..UptoSaid'. A law counts once. -/
mutual
def uptoBulk {H : Type} : DataW H → Nat
  | .lit (.string bytes) => bytes.length + 1
  | .lit _ => 1
  | .nil => 1
  | .ptr d => uptoBulk d + 1
  | .slice elems spare => uptoBulkAll elems + uptoBulkAll spare + 1
  | .agg parts => uptoBulkAll parts + 1
  | .iface _ d => uptoBulk d + 1
  | .map entries => uptoBulkEntries entries + 1
  | .held _ => 1
def uptoBulkAll {H : Type} : List (DataW H) → Nat
  | [] => 0
  | d :: r => uptoBulk d + uptoBulkAll r
def uptoBulkEntries {H : Type} : List (Lit × DataW H) → Nat
  | [] => 0
  | x :: r => uptoBulkEntry x + uptoBulkEntries r
def uptoBulkEntry {H : Type} : Lit × DataW H → Nat
  | (.string bytes, d) => bytes.length + uptoBulk d + 1
  | (_, d) => uptoBulk d + 1
 end
def uptoSmall : (H : Type) → List (DataW H) → Bool := fun _ ds => decide (uptoBulkAll ds ≤ 1048576)
def OpenSpec.upto (s : _root_.Go.ChangeSpec) : _root_.Go.OpenSpec := { _root_.Go.OpenSpec.ofChange s with cond := some uptoSmall }

/-- 'laws.FnExactRulesOfPrimes', WHERE WHAT IT READS IS OF BULK AT MOST 1048576: true; the input reads as it did. -/
def fnExactRulesOfPrimesUptoRow : OpenClaim := { program := "ytgoldeagghadhaa", sum := "cef620c913b9abd155edb530dd97384fcabcdfbf1561dd4a3250419e4d537ed1", func := "loop.example/g01235/laws.FnExactRulesOfPrimes", spec := "fnExactRulesOfPrimes", apart := false, narrowed := true }
def FnExactRulesOfPrimesUptoSaid : Prop := fnExactRulesOfPrimesUptoRow.holds Try.pinned (OpenSpec.upto fnExactRulesOfPrimesSpec)

/-- 'laws.FnExactRestsOfNumber', WHERE WHAT IT READS IS OF BULK AT MOST 1048576: true; the input reads as it did. -/
def fnExactRestsOfNumberUptoRow : OpenClaim := { program := "ytgoldeagghadhaa", sum := "cef620c913b9abd155edb530dd97384fcabcdfbf1561dd4a3250419e4d537ed1", func := "loop.example/g01235/laws.FnExactRestsOfNumber", spec := "fnExactRestsOfNumber", apart := false, narrowed := true }
def FnExactRestsOfNumberUptoSaid : Prop := fnExactRestsOfNumberUptoRow.holds Try.pinned (OpenSpec.upto fnExactRestsOfNumberSpec)

/-- 'laws.FnExactCountWithout', WHERE WHAT IT READS IS OF BULK AT MOST 1048576: true; the input reads as it did. -/
def fnExactCountWithoutUptoRow : OpenClaim := { program := "ytgoldeagghadhaa", sum := "cef620c913b9abd155edb530dd97384fcabcdfbf1561dd4a3250419e4d537ed1", func := "loop.example/g01235/laws.FnExactCountWithout", spec := "fnExactCountWithout", unfollowed := true, recurses := true, apart := false, narrowed := true }
def FnExactCountWithoutUptoSaid : Prop := fnExactCountWithoutUptoRow.holds Try.pinned (OpenSpec.upto fnExactCountWithoutSpec)

/-- 'laws.FnExactCrossersUpTo', WHERE WHAT IT READS IS OF BULK AT MOST 1048576: true; the input reads as it did. -/
def fnExactCrossersUpToUptoRow : OpenClaim := { program := "ytgoldeagghadhaa", sum := "cef620c913b9abd155edb530dd97384fcabcdfbf1561dd4a3250419e4d537ed1", func := "loop.example/g01235/laws.FnExactCrossersUpTo", spec := "fnExactCrossersUpTo", unfollowed := true, recurses := true, apart := false, narrowed := true }
def FnExactCrossersUpToUptoSaid : Prop := fnExactCrossersUpToUptoRow.holds Try.pinned (OpenSpec.upto fnExactCrossersUpToSpec)

/-- 'laws.FnExactTwinsUpTo', WHERE WHAT IT READS IS OF BULK AT MOST 1048576: true; the input reads as it did. -/
def fnExactTwinsUpToUptoRow : OpenClaim := { program := "ytgoldeagghadhaa", sum := "cef620c913b9abd155edb530dd97384fcabcdfbf1561dd4a3250419e4d537ed1", func := "loop.example/g01235/laws.FnExactTwinsUpTo", spec := "fnExactTwinsUpTo", unfollowed := true, recurses := true, apart := false, narrowed := true }
def FnExactTwinsUpToUptoSaid : Prop := fnExactTwinsUpToUptoRow.holds Try.pinned (OpenSpec.upto fnExactTwinsUpToSpec)

/-- 'laws.FnExactFactorsOf', WHERE WHAT IT READS IS OF BULK AT MOST 1048576: true; the input reads as it did. -/
def fnExactFactorsOfUptoRow : OpenClaim := { program := "ytgoldeagghadhaa", sum := "cef620c913b9abd155edb530dd97384fcabcdfbf1561dd4a3250419e4d537ed1", func := "loop.example/g01235/laws.FnExactFactorsOf", spec := "fnExactFactorsOf", apart := false, narrowed := true }
def FnExactFactorsOfUptoSaid : Prop := fnExactFactorsOfUptoRow.holds Try.pinned (OpenSpec.upto fnExactFactorsOfSpec)

/-- 'laws.FnExactNumberOfFactors', WHERE WHAT IT READS IS OF BULK AT MOST 1048576: true; the input reads as it did. -/
def fnExactNumberOfFactorsUptoRow : OpenClaim := { program := "ytgoldeagghadhaa", sum := "cef620c913b9abd155edb530dd97384fcabcdfbf1561dd4a3250419e4d537ed1", func := "loop.example/g01235/laws.FnExactNumberOfFactors", spec := "fnExactNumberOfFactors", apart := false, narrowed := true }
def FnExactNumberOfFactorsUptoSaid : Prop := fnExactNumberOfFactorsUptoRow.holds Try.pinned (OpenSpec.upto fnExactNumberOfFactorsSpec)

/-- 'laws.FnExactNumberWithRests', WHERE WHAT IT READS IS OF BULK AT MOST 1048576: true; the input reads as it did. -/
def fnExactNumberWithRestsUptoRow : OpenClaim := { program := "ytgoldeagghadhaa", sum := "cef620c913b9abd155edb530dd97384fcabcdfbf1561dd4a3250419e4d537ed1", func := "loop.example/g01235/laws.FnExactNumberWithRests", spec := "fnExactNumberWithRests", apart := false, narrowed := true }
def FnExactNumberWithRestsUptoSaid : Prop := fnExactNumberWithRestsUptoRow.holds Try.pinned (OpenSpec.upto fnExactNumberWithRestsSpec)

/-- 'laws.FnExactPrimePlaces', WHERE WHAT IT READS IS OF BULK AT MOST 1048576: true; the input reads as it did. -/
def fnExactPrimePlacesUptoRow : OpenClaim := { program := "ytgoldeagghadhaa", sum := "cef620c913b9abd155edb530dd97384fcabcdfbf1561dd4a3250419e4d537ed1", func := "loop.example/g01235/laws.FnExactPrimePlaces", spec := "fnExactPrimePlaces", unfollowed := true, recurses := true, apart := false, narrowed := true }
def FnExactPrimePlacesUptoSaid : Prop := fnExactPrimePlacesUptoRow.holds Try.pinned (OpenSpec.upto fnExactPrimePlacesSpec)

/-- 'laws.FnFactorsToldOfAll', WHERE WHAT IT READS IS OF BULK AT MOST 1048576: true; the input reads as it did. -/
def fnFactorsToldOfAllUptoRow : OpenClaim := { program := "ytgoldeagghadhaa", sum := "cef620c913b9abd155edb530dd97384fcabcdfbf1561dd4a3250419e4d537ed1", func := "loop.example/g01235/laws.FnFactorsToldOfAll", spec := "fnFactorsToldOfAll", apart := false, narrowed := true }
def FnFactorsToldOfAllUptoSaid : Prop := fnFactorsToldOfAllUptoRow.holds Try.pinned (OpenSpec.upto fnFactorsToldOfAllSpec)

/-- 'laws.FnFactorsTold', WHERE WHAT IT READS IS OF BULK AT MOST 1048576: true; the input reads as it did. -/
def fnFactorsToldUptoRow : OpenClaim := { program := "ytgoldeagghadhaa", sum := "cef620c913b9abd155edb530dd97384fcabcdfbf1561dd4a3250419e4d537ed1", func := "loop.example/g01235/laws.FnFactorsTold", spec := "fnFactorsTold", apart := false, narrowed := true }
def FnFactorsToldUptoSaid : Prop := fnFactorsToldUptoRow.holds Try.pinned (OpenSpec.upto fnFactorsToldSpec)

end Rows
end Go.Proofs.Ytgoldeagghadhaa
