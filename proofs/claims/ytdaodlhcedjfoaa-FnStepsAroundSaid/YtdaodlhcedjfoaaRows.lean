/-
  No cell of these rows narrows 'for every input' (looked for: loops, veiled, ifaces, maps, wideKeys, modest, calm, conditions, laid).
  DERIVED. THE GIVEN ROWS OF THIS SEAT. 4 by the template 'for every input the law returns true; each argument reads behind the call as it read before'; 0 by the template 'total and deterministic' (their statements: YtdaodlhcedjfoaaTotals.lean).
  GIVEN WITH THE SEED: the statements are not yours to turn. If you find one false, say at which input.
  Laid BY PROGRAM, IN A SANDBOX (cutbox-rows.mjs): the forced cells as the released guide's own fill.sh prints them over the translation d0d901454c205cdb… (all of the seat's roots in one cut). By AI agents, Wed Nov 11 2026. No macro, syntax, notation, axiom, sorry.
-/
import Derived.Test.YtdaodlhcedjfoaaChecked
import GoSem.Claim
import GoSem.ClaimJoined
import GoSem.ClaimMapViews
import Derived.JoinedTies
import Derived.KernelRfl
namespace Go.Proofs.Ytdaodlhcedjfoaa
/- THE CELL 'sum', in the pinned program and in every row, IS THE sha256 OF THE DUMP (.gsa) THAT YtdaodlhcedjfoaaProg.lean LOADS. Nothing in Lean hashes anything: it is a label: what it is worth is what the hold of that sum in a sandbox is worth. -/
noncomputable def Try.pinned : Pinned := { name := "ytdaodlhcedjfoaa", sum := "d0d901454c205cdb6f9bcf490e49aead7ca981ace93d23c294292fe24a3c76ec", checked := Try.checked }
namespace Rows
def none {H : Type} : Left H := { results := [], args := [] }

/-- 'laws.FnWheelsTurnOfAll': WHATEVER THE INPUT: true; the input reads as it did. -/
def fnWheelsTurnOfAllSpec : ChangeSpec := { name := "fnWheelsTurnOfAll", fn := fun _ => fun
  | [d1, d2] => { results := [.lit (.bool true)], args := [d1, d2] }
  | _ => none }
def fnWheelsTurnOfAllRow : OpenClaim := { program := "ytdaodlhcedjfoaa", sum := "d0d901454c205cdb6f9bcf490e49aead7ca981ace93d23c294292fe24a3c76ec", func := "loop.example/g01235/laws.FnWheelsTurnOfAll", spec := "fnWheelsTurnOfAll", unfollowed := true, recurses := true, apart := false }
def FnWheelsTurnOfAllSaid : Prop := fnWheelsTurnOfAllRow.holds Try.pinned (OpenSpec.ofChange fnWheelsTurnOfAllSpec)

/-- ITS FALSE NEIGHBOUR: 'it returns false'. Refute it at one input. -/
def fnWheelsTurnOfAllWrong : ChangeSpec := { name := "fnWheelsTurnOfAll", fn := fun _ => fun
  | [d1, d2] => { results := [.lit (.bool false)], args := [d1, d2] }
  | _ => none }
def FnWheelsTurnOfAllWrongFalsely : Prop := fnWheelsTurnOfAllRow.holds Try.pinned (OpenSpec.ofChange fnWheelsTurnOfAllWrong)

/-- 'laws.FnWheelsTurn': WHATEVER THE INPUT: true; the input reads as it did. -/
def fnWheelsTurnSpec : ChangeSpec := { name := "fnWheelsTurn", fn := fun _ => fun
  | [d1, d2] => { results := [.lit (.bool true)], args := [d1, d2] }
  | _ => none }
def fnWheelsTurnRow : OpenClaim := { program := "ytdaodlhcedjfoaa", sum := "d0d901454c205cdb6f9bcf490e49aead7ca981ace93d23c294292fe24a3c76ec", func := "loop.example/g01235/laws.FnWheelsTurn", spec := "fnWheelsTurn", unfollowed := true, recurses := true, apart := false }
def FnWheelsTurnSaid : Prop := fnWheelsTurnRow.holds Try.pinned (OpenSpec.ofChange fnWheelsTurnSpec)

/-- ITS FALSE NEIGHBOUR: 'it returns false'. Refute it at one input. -/
def fnWheelsTurnWrong : ChangeSpec := { name := "fnWheelsTurn", fn := fun _ => fun
  | [d1, d2] => { results := [.lit (.bool false)], args := [d1, d2] }
  | _ => none }
def FnWheelsTurnWrongFalsely : Prop := fnWheelsTurnRow.holds Try.pinned (OpenSpec.ofChange fnWheelsTurnWrong)

/-- 'laws.FnStepsAround': WHATEVER THE INPUT: true; the input reads as it did. -/
def fnStepsAroundSpec : ChangeSpec := { name := "fnStepsAround", fn := fun _ => fun
  | [d1, d2] => { results := [.lit (.bool true)], args := [d1, d2] }
  | _ => none }
def fnStepsAroundRow : OpenClaim := { program := "ytdaodlhcedjfoaa", sum := "d0d901454c205cdb6f9bcf490e49aead7ca981ace93d23c294292fe24a3c76ec", func := "loop.example/g01235/laws.FnStepsAround", spec := "fnStepsAround", unfollowed := true, recurses := true, apart := false }
def FnStepsAroundSaid : Prop := fnStepsAroundRow.holds Try.pinned (OpenSpec.ofChange fnStepsAroundSpec)

/-- ITS FALSE NEIGHBOUR: 'it returns false'. Refute it at one input. -/
def fnStepsAroundWrong : ChangeSpec := { name := "fnStepsAround", fn := fun _ => fun
  | [d1, d2] => { results := [.lit (.bool false)], args := [d1, d2] }
  | _ => none }
def FnStepsAroundWrongFalsely : Prop := fnStepsAroundRow.holds Try.pinned (OpenSpec.ofChange fnStepsAroundWrong)

/-- 'laws.FnStepsAroundOfAll': WHATEVER THE INPUT: true; the input reads as it did. -/
def fnStepsAroundOfAllSpec : ChangeSpec := { name := "fnStepsAroundOfAll", fn := fun _ => fun
  | [d1, d2, d3, d4, d5, d6, d7, d8, d9] => { results := [.lit (.bool true)], args := [d1, d2, d3, d4, d5, d6, d7, d8, d9] }
  | _ => none }
def fnStepsAroundOfAllRow : OpenClaim := { program := "ytdaodlhcedjfoaa", sum := "d0d901454c205cdb6f9bcf490e49aead7ca981ace93d23c294292fe24a3c76ec", func := "loop.example/g01235/laws.FnStepsAroundOfAll", spec := "fnStepsAroundOfAll", unfollowed := true, recurses := true, apart := false }
def FnStepsAroundOfAllSaid : Prop := fnStepsAroundOfAllRow.holds Try.pinned (OpenSpec.ofChange fnStepsAroundOfAllSpec)

/-- ITS FALSE NEIGHBOUR: 'it returns false'. Refute it at one input. -/
def fnStepsAroundOfAllWrong : ChangeSpec := { name := "fnStepsAroundOfAll", fn := fun _ => fun
  | [d1, d2, d3, d4, d5, d6, d7, d8, d9] => { results := [.lit (.bool false)], args := [d1, d2, d3, d4, d5, d6, d7, d8, d9] }
  | _ => none }
def FnStepsAroundOfAllWrongFalsely : Prop := fnStepsAroundOfAllRow.holds Try.pinned (OpenSpec.ofChange fnStepsAroundOfAllWrong)

/- THE SECOND FORM. 'bulk': how many values and letters a reading holds, each counted each time it is reached (what is shared counts as often as it is met; a slice's spare places count too). A statement '..UptoSaid' is the law's where the arguments, and the package variables that the reading takes, are together of bulk at most 1048576: NARROWER than '..Said'. Prove '..Said' where nothing that the law and all that it calls make is longer than what came in: it says more and counts as full. Else prove '..UptoSaid'. A law counts once. -/
mutual
def uptoBulk {H : Type} : DataW H → Nat
  | .lit (.string bytes) => bytes.length + 1
  | .lit _ => 1
  | .nil => 1
  | .ptr d => uptoBulk d + 1
  | .slice elems spare => uptoBulkAll elems + uptoBulkAll spare + 1
  | .agg parts => uptoBulkAll parts + 1
  | .iface _ d => uptoBulk d + 1
  | .map entries => uptoBulkEntries entries + 1
  | .held _ => 1
def uptoBulkAll {H : Type} : List (DataW H) → Nat
  | [] => 0
  | d :: r => uptoBulk d + uptoBulkAll r
def uptoBulkEntries {H : Type} : List (Lit × DataW H) → Nat
  | [] => 0
  | x :: r => uptoBulkEntry x + uptoBulkEntries r
def uptoBulkEntry {H : Type} : Lit × DataW H → Nat
  | (.string bytes, d) => bytes.length + uptoBulk d + 1
  | (_, d) => uptoBulk d + 1
 end
def uptoSmall : (H : Type) → List (DataW H) → Bool := fun _ ds => decide (uptoBulkAll ds ≤ 1048576)
def OpenSpec.upto (s : _root_.Go.ChangeSpec) : _root_.Go.OpenSpec := { _root_.Go.OpenSpec.ofChange s with cond := some uptoSmall }

/-- 'laws.FnWheelsTurnOfAll', WHERE WHAT IT READS IS OF BULK AT MOST 1048576: true; the input reads as it did. -/
def fnWheelsTurnOfAllUptoRow : OpenClaim := { program := "ytdaodlhcedjfoaa", sum := "d0d901454c205cdb6f9bcf490e49aead7ca981ace93d23c294292fe24a3c76ec", func := "loop.example/g01235/laws.FnWheelsTurnOfAll", spec := "fnWheelsTurnOfAll", unfollowed := true, recurses := true, apart := false, narrowed := true }
def FnWheelsTurnOfAllUptoSaid : Prop := fnWheelsTurnOfAllUptoRow.holds Try.pinned (OpenSpec.upto fnWheelsTurnOfAllSpec)

/-- 'laws.FnWheelsTurn', WHERE WHAT IT READS IS OF BULK AT MOST 1048576: true; the input reads as it did. -/
def fnWheelsTurnUptoRow : OpenClaim := { program := "ytdaodlhcedjfoaa", sum := "d0d901454c205cdb6f9bcf490e49aead7ca981ace93d23c294292fe24a3c76ec", func := "loop.example/g01235/laws.FnWheelsTurn", spec := "fnWheelsTurn", unfollowed := true, recurses := true, apart := false, narrowed := true }
def FnWheelsTurnUptoSaid : Prop := fnWheelsTurnUptoRow.holds Try.pinned (OpenSpec.upto fnWheelsTurnSpec)

/-- 'laws.FnStepsAround', WHERE WHAT IT READS IS OF BULK AT MOST 1048576: true; the input reads as it did. -/
def fnStepsAroundUptoRow : OpenClaim := { program := "ytdaodlhcedjfoaa", sum := "d0d901454c205cdb6f9bcf490e49aead7ca981ace93d23c294292fe24a3c76ec", func := "loop.example/g01235/laws.FnStepsAround", spec := "fnStepsAround", unfollowed := true, recurses := true, apart := false, narrowed := true }
def FnStepsAroundUptoSaid : Prop := fnStepsAroundUptoRow.holds Try.pinned (OpenSpec.upto fnStepsAroundSpec)

/-- 'laws.FnStepsAroundOfAll', WHERE WHAT IT READS IS OF BULK AT MOST 1048576: true; the input reads as it did. -/
def fnStepsAroundOfAllUptoRow : OpenClaim := { program := "ytdaodlhcedjfoaa", sum := "d0d901454c205cdb6f9bcf490e49aead7ca981ace93d23c294292fe24a3c76ec", func := "loop.example/g01235/laws.FnStepsAroundOfAll", spec := "fnStepsAroundOfAll", unfollowed := true, recurses := true, apart := false, narrowed := true }
def FnStepsAroundOfAllUptoSaid : Prop := fnStepsAroundOfAllUptoRow.holds Try.pinned (OpenSpec.upto fnStepsAroundOfAllSpec)

end Rows
end Go.Proofs.Ytdaodlhcedjfoaa
