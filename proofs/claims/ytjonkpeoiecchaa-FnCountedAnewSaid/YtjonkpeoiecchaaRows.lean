/-
  No cell of these rows narrows 'for every input' (looked for: loops, veiled, ifaces, maps, wideKeys, modest, calm, conditions, laid).
  DERIVED. THE GIVEN ROWS OF THIS SEAT. 5 by the template 'for every input the law returns true; each argument reads behind the call as it read before'; 0 by the template 'total and deterministic' (their statements: YtjonkpeoiecchaaTotals.lean).
  GIVEN WITH THE SEED: the statements are not yours to turn. If you find one false, say at which input.
  Laid BY PROGRAM, IN A SANDBOX (cutbox-rows.mjs): the forced cells as the released guide's own fill.sh prints them over the translation 88e6b14b522c8365… (all of the seat's roots in one cut). By AI agents, Wed Nov 11 2026. No macro, syntax, notation, axiom, sorry.
-/
import Derived.Test.YtjonkpeoiecchaaChecked
import GoSem.Claim
import GoSem.ClaimJoined
import GoSem.ClaimMapViews
import Derived.JoinedTies
import Derived.KernelRfl
namespace Go.Proofs.Ytjonkpeoiecchaa
/- THE CELL 'sum', in the pinned program and in every row, IS THE sha256 OF THE DUMP (.gsa) THAT YtjonkpeoiecchaaProg.lean LOADS. Nothing in Lean hashes anything: it is a label: what it is worth is what the hold of that sum in a sandbox is worth. -/
noncomputable def Try.pinned : Pinned := { name := "ytjonkpeoiecchaa", sum := "88e6b14b522c836544321e51275391a399560b2737d656223aab96f66ad1939c", checked := Try.checked }
namespace Rows
def none {H : Type} : Left H := { results := [], args := [] }

/-- 'laws.FnSumsOfPrimesOfAll': WHATEVER THE INPUT: true; the input reads as it did. -/
def fnSumsOfPrimesOfAllSpec : ChangeSpec := { name := "fnSumsOfPrimesOfAll", fn := fun _ => fun
  | [d1, d2, d3, d4] => { results := [.lit (.bool true)], args := [d1, d2, d3, d4] }
  | _ => none }
def fnSumsOfPrimesOfAllRow : OpenClaim := { program := "ytjonkpeoiecchaa", sum := "88e6b14b522c836544321e51275391a399560b2737d656223aab96f66ad1939c", func := "loop.example/g01235/laws.FnSumsOfPrimesOfAll", spec := "fnSumsOfPrimesOfAll", unfollowed := true, recurses := true, apart := false }
def FnSumsOfPrimesOfAllSaid : Prop := fnSumsOfPrimesOfAllRow.holds Try.pinned (OpenSpec.ofChange fnSumsOfPrimesOfAllSpec)

/-- ITS FALSE NEIGHBOUR: 'it returns false'. Refute it at one input. -/
def fnSumsOfPrimesOfAllWrong : ChangeSpec := { name := "fnSumsOfPrimesOfAll", fn := fun _ => fun
  | [d1, d2, d3, d4] => { results := [.lit (.bool false)], args := [d1, d2, d3, d4] }
  | _ => none }
def FnSumsOfPrimesOfAllWrongFalsely : Prop := fnSumsOfPrimesOfAllRow.holds Try.pinned (OpenSpec.ofChange fnSumsOfPrimesOfAllWrong)

/-- 'laws.FnSumsOfPrimes': WHATEVER THE INPUT: true; the input reads as it did. -/
def fnSumsOfPrimesSpec : ChangeSpec := { name := "fnSumsOfPrimes", fn := fun _ => fun
  | [d1, d2] => { results := [.lit (.bool true)], args := [d1, d2] }
  | _ => none }
def fnSumsOfPrimesRow : OpenClaim := { program := "ytjonkpeoiecchaa", sum := "88e6b14b522c836544321e51275391a399560b2737d656223aab96f66ad1939c", func := "loop.example/g01235/laws.FnSumsOfPrimes", spec := "fnSumsOfPrimes", unfollowed := true, recurses := true, apart := false }
def FnSumsOfPrimesSaid : Prop := fnSumsOfPrimesRow.holds Try.pinned (OpenSpec.ofChange fnSumsOfPrimesSpec)

/-- ITS FALSE NEIGHBOUR: 'it returns false'. Refute it at one input. -/
def fnSumsOfPrimesWrong : ChangeSpec := { name := "fnSumsOfPrimes", fn := fun _ => fun
  | [d1, d2] => { results := [.lit (.bool false)], args := [d1, d2] }
  | _ => none }
def FnSumsOfPrimesWrongFalsely : Prop := fnSumsOfPrimesRow.holds Try.pinned (OpenSpec.ofChange fnSumsOfPrimesWrong)

/-- 'laws.FnPrimesCountedOfAll': WHATEVER THE INPUT: true; the input reads as it did. -/
def fnPrimesCountedOfAllSpec : ChangeSpec := { name := "fnPrimesCountedOfAll", fn := fun _ => fun
  | [d1, d2, d3, d4, d5, d6] => { results := [.lit (.bool true)], args := [d1, d2, d3, d4, d5, d6] }
  | _ => none }
def fnPrimesCountedOfAllRow : OpenClaim := { program := "ytjonkpeoiecchaa", sum := "88e6b14b522c836544321e51275391a399560b2737d656223aab96f66ad1939c", func := "loop.example/g01235/laws.FnPrimesCountedOfAll", spec := "fnPrimesCountedOfAll", unfollowed := true, recurses := true, apart := false }
def FnPrimesCountedOfAllSaid : Prop := fnPrimesCountedOfAllRow.holds Try.pinned (OpenSpec.ofChange fnPrimesCountedOfAllSpec)

/-- ITS FALSE NEIGHBOUR: 'it returns false'. Refute it at one input. -/
def fnPrimesCountedOfAllWrong : ChangeSpec := { name := "fnPrimesCountedOfAll", fn := fun _ => fun
  | [d1, d2, d3, d4, d5, d6] => { results := [.lit (.bool false)], args := [d1, d2, d3, d4, d5, d6] }
  | _ => none }
def FnPrimesCountedOfAllWrongFalsely : Prop := fnPrimesCountedOfAllRow.holds Try.pinned (OpenSpec.ofChange fnPrimesCountedOfAllWrong)

/-- 'laws.FnPrimesCounted': WHATEVER THE INPUT: true; the input reads as it did. -/
def fnPrimesCountedSpec : ChangeSpec := { name := "fnPrimesCounted", fn := fun _ => fun
  | [d1, d2] => { results := [.lit (.bool true)], args := [d1, d2] }
  | _ => none }
def fnPrimesCountedRow : OpenClaim := { program := "ytjonkpeoiecchaa", sum := "88e6b14b522c836544321e51275391a399560b2737d656223aab96f66ad1939c", func := "loop.example/g01235/laws.FnPrimesCounted", spec := "fnPrimesCounted", unfollowed := true, recurses := true, apart := false }
def FnPrimesCountedSaid : Prop := fnPrimesCountedRow.holds Try.pinned (OpenSpec.ofChange fnPrimesCountedSpec)

/-- ITS FALSE NEIGHBOUR: 'it returns false'. Refute it at one input. -/
def fnPrimesCountedWrong : ChangeSpec := { name := "fnPrimesCounted", fn := fun _ => fun
  | [d1, d2] => { results := [.lit (.bool false)], args := [d1, d2] }
  | _ => none }
def FnPrimesCountedWrongFalsely : Prop := fnPrimesCountedRow.holds Try.pinned (OpenSpec.ofChange fnPrimesCountedWrong)

/-- 'laws.FnCountedAnew': WHATEVER THE INPUT: true; the input reads as it did. -/
def fnCountedAnewSpec : ChangeSpec := { name := "fnCountedAnew", fn := fun _ => fun
  | [d1, d2] => { results := [.lit (.bool true)], args := [d1, d2] }
  | _ => none }
def fnCountedAnewRow : OpenClaim := { program := "ytjonkpeoiecchaa", sum := "88e6b14b522c836544321e51275391a399560b2737d656223aab96f66ad1939c", func := "loop.example/g01235/laws.FnCountedAnew", spec := "fnCountedAnew", unfollowed := true, recurses := true, apart := false }
def FnCountedAnewSaid : Prop := fnCountedAnewRow.holds Try.pinned (OpenSpec.ofChange fnCountedAnewSpec)

/-- ITS FALSE NEIGHBOUR: 'it returns false'. Refute it at one input. -/
def fnCountedAnewWrong : ChangeSpec := { name := "fnCountedAnew", fn := fun _ => fun
  | [d1, d2] => { results := [.lit (.bool false)], args := [d1, d2] }
  | _ => none }
def FnCountedAnewWrongFalsely : Prop := fnCountedAnewRow.holds Try.pinned (OpenSpec.ofChange fnCountedAnewWrong)

/- THE SECOND FORM. 'bulk': how many values and letters a reading holds, each counted each time it is reached (what is shared counts as often as it is met; a slice's spare places count too). A statement '..UptoSaid' is the law's where the arguments, and the package variables that the reading takes, are together of bulk at most 1048576: NARROWER than '..Said'. Prove '..Said' where nothing that the law and all that it calls make is longer than what came in: it says more and counts as full. Else prove '..UptoSaid'. A law counts once. -/
mutual
def uptoBulk {H : Type} : DataW H → Nat
  | .lit (.string bytes) => bytes.length + 1
  | .lit _ => 1
  | .nil => 1
  | .ptr d => uptoBulk d + 1
  | .slice elems spare => uptoBulkAll elems + uptoBulkAll spare + 1
  | .agg parts => uptoBulkAll parts + 1
  | .iface _ d => uptoBulk d + 1
  | .map entries => uptoBulkEntries entries + 1
  | .held _ => 1
def uptoBulkAll {H : Type} : List (DataW H) → Nat
  | [] => 0
  | d :: r => uptoBulk d + uptoBulkAll r
def uptoBulkEntries {H : Type} : List (Lit × DataW H) → Nat
  | [] => 0
  | x :: r => uptoBulkEntry x + uptoBulkEntries r
def uptoBulkEntry {H : Type} : Lit × DataW H → Nat
  | (.string bytes, d) => bytes.length + uptoBulk d + 1
  | (_, d) => uptoBulk d + 1
 end
def uptoSmall : (H : Type) → List (DataW H) → Bool := fun _ ds => decide (uptoBulkAll ds ≤ 1048576)
def OpenSpec.upto (s : _root_.Go.ChangeSpec) : _root_.Go.OpenSpec := { _root_.Go.OpenSpec.ofChange s with cond := some uptoSmall }

/-- 'laws.FnSumsOfPrimesOfAll', WHERE WHAT IT READS IS OF BULK AT MOST 1048576: true; the input reads as it did. -/
def fnSumsOfPrimesOfAllUptoRow : OpenClaim := { program := "ytjonkpeoiecchaa", sum := "88e6b14b522c836544321e51275391a399560b2737d656223aab96f66ad1939c", func := "loop.example/g01235/laws.FnSumsOfPrimesOfAll", spec := "fnSumsOfPrimesOfAll", unfollowed := true, recurses := true, apart := false, narrowed := true }
def FnSumsOfPrimesOfAllUptoSaid : Prop := fnSumsOfPrimesOfAllUptoRow.holds Try.pinned (OpenSpec.upto fnSumsOfPrimesOfAllSpec)

/-- 'laws.FnSumsOfPrimes', WHERE WHAT IT READS IS OF BULK AT MOST 1048576: true; the input reads as it did. -/
def fnSumsOfPrimesUptoRow : OpenClaim := { program := "ytjonkpeoiecchaa", sum := "88e6b14b522c836544321e51275391a399560b2737d656223aab96f66ad1939c", func := "loop.example/g01235/laws.FnSumsOfPrimes", spec := "fnSumsOfPrimes", unfollowed := true, recurses := true, apart := false, narrowed := true }
def FnSumsOfPrimesUptoSaid : Prop := fnSumsOfPrimesUptoRow.holds Try.pinned (OpenSpec.upto fnSumsOfPrimesSpec)

/-- 'laws.FnPrimesCountedOfAll', WHERE WHAT IT READS IS OF BULK AT MOST 1048576: true; the input reads as it did. -/
def fnPrimesCountedOfAllUptoRow : OpenClaim := { program := "ytjonkpeoiecchaa", sum := "88e6b14b522c836544321e51275391a399560b2737d656223aab96f66ad1939c", func := "loop.example/g01235/laws.FnPrimesCountedOfAll", spec := "fnPrimesCountedOfAll", unfollowed := true, recurses := true, apart := false, narrowed := true }
def FnPrimesCountedOfAllUptoSaid : Prop := fnPrimesCountedOfAllUptoRow.holds Try.pinned (OpenSpec.upto fnPrimesCountedOfAllSpec)

/-- 'laws.FnPrimesCounted', WHERE WHAT IT READS IS OF BULK AT MOST 1048576: true; the input reads as it did. -/
def fnPrimesCountedUptoRow : OpenClaim := { program := "ytjonkpeoiecchaa", sum := "88e6b14b522c836544321e51275391a399560b2737d656223aab96f66ad1939c", func := "loop.example/g01235/laws.FnPrimesCounted", spec := "fnPrimesCounted", unfollowed := true, recurses := true, apart := false, narrowed := true }
def FnPrimesCountedUptoSaid : Prop := fnPrimesCountedUptoRow.holds Try.pinned (OpenSpec.upto fnPrimesCountedSpec)

/-- 'laws.FnCountedAnew', WHERE WHAT IT READS IS OF BULK AT MOST 1048576: true; the input reads as it did. -/
def fnCountedAnewUptoRow : OpenClaim := { program := "ytjonkpeoiecchaa", sum := "88e6b14b522c836544321e51275391a399560b2737d656223aab96f66ad1939c", func := "loop.example/g01235/laws.FnCountedAnew", spec := "fnCountedAnew", unfollowed := true, recurses := true, apart := false, narrowed := true }
def FnCountedAnewUptoSaid : Prop := fnCountedAnewUptoRow.holds Try.pinned (OpenSpec.upto fnCountedAnewSpec)

end Rows
end Go.Proofs.Ytjonkpeoiecchaa
