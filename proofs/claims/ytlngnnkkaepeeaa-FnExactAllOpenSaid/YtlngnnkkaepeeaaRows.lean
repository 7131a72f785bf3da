/-
  No cell of these rows narrows 'for every input' (looked for: loops, veiled, ifaces, maps, wideKeys, modest, calm, conditions, laid).
  DERIVED. THE GIVEN ROWS OF THIS SEAT. 10 by the template 'for every input the law returns true; each argument reads behind the call as it read before'; 0 by the template 'total and deterministic' (their statements: YtlngnnkkaepeeaaTotals.lean).
  GIVEN WITH THE SEED: the statements are not yours to turn. If you find one false, say at which input.
  Laid BY PROGRAM, IN A SANDBOX (cutbox-rows.mjs): the forced cells as the released guide's own fill.sh prints them over the translation 8515e54eaeb72090… (all of the seat's roots in one cut). By AI agents, Wed Nov 11 2026. No macro, syntax, notation, axiom, sorry.
-/
import Derived.Test.YtlngnnkkaepeeaaChecked
import GoSem.Claim
import GoSem.ClaimJoined
import GoSem.ClaimMapViews
import Derived.JoinedTies
import Derived.KernelRfl
namespace Go.Proofs.Ytlngnnkkaepeeaa
/- THE CELL 'sum', in the pinned program and in every row, IS THE sha256 OF THE DUMP (.gsa) THAT YtlngnnkkaepeeaaProg.lean LOADS. Nothing in Lean hashes anything: it is a label: what it is worth is what the hold of that sum in a sandbox is worth. -/
noncomputable def Try.pinned : Pinned := { name := "ytlngnnkkaepeeaa", sum := "8515e54eaeb7209078beacaf1656cb0c5a86c74bf2199694bf07793a554250b0", checked := Try.checked }
namespace Rows
def none {H : Type} : Left H := { results := [], args := [] }

/-- 'laws.FnExactStepSizes': WHATEVER THE INPUT: true; the input reads as it did. -/
def fnExactStepSizesSpec : ChangeSpec := { name := "fnExactStepSizes", fn := fun _ => fun
  | [d] => { results := [.lit (.bool true)], args := [d] }
  | _ => none }
def fnExactStepSizesRow : OpenClaim := { program := "ytlngnnkkaepeeaa", sum := "8515e54eaeb7209078beacaf1656cb0c5a86c74bf2199694bf07793a554250b0", func := "loop.example/g01235/laws.FnExactStepSizes", spec := "fnExactStepSizes", unfollowed := true, recurses := true, apart := false }
def FnExactStepSizesSaid : Prop := fnExactStepSizesRow.holds Try.pinned (OpenSpec.ofChange fnExactStepSizesSpec)

/-- ITS FALSE NEIGHBOUR: 'it returns false'. Refute it at one input. -/
def fnExactStepSizesWrong : ChangeSpec := { name := "fnExactStepSizes", fn := fun _ => fun
  | [d] => { results := [.lit (.bool false)], args := [d] }
  | _ => none }
def FnExactStepSizesWrongFalsely : Prop := fnExactStepSizesRow.holds Try.pinned (OpenSpec.ofChange fnExactStepSizesWrong)

/-- 'laws.FnExactFirstClosing': WHATEVER THE INPUT: true; the input reads as it did. -/
def fnExactFirstClosingSpec : ChangeSpec := { name := "fnExactFirstClosing", fn := fun _ => fun
  | [d] => { results := [.lit (.bool true)], args := [d] }
  | _ => none }
def fnExactFirstClosingRow : OpenClaim := { program := "ytlngnnkkaepeeaa", sum := "8515e54eaeb7209078beacaf1656cb0c5a86c74bf2199694bf07793a554250b0", func := "loop.example/g01235/laws.FnExactFirstClosing", spec := "fnExactFirstClosing", recurses := true, apart := false }
def FnExactFirstClosingSaid : Prop := fnExactFirstClosingRow.holds Try.pinned (OpenSpec.ofChange fnExactFirstClosingSpec)

/-- ITS FALSE NEIGHBOUR: 'it returns false'. Refute it at one input. -/
def fnExactFirstClosingWrong : ChangeSpec := { name := "fnExactFirstClosing", fn := fun _ => fun
  | [d] => { results := [.lit (.bool false)], args := [d] }
  | _ => none }
def FnExactFirstClosingWrongFalsely : Prop := fnExactFirstClosingRow.holds Try.pinned (OpenSpec.ofChange fnExactFirstClosingWrong)

/-- 'laws.FnExactIsOpen': WHATEVER THE INPUT: true; the input reads as it did. -/
def fnExactIsOpenSpec : ChangeSpec := { name := "fnExactIsOpen", fn := fun _ => fun
  | [d] => { results := [.lit (.bool true)], args := [d] }
  | _ => none }
def fnExactIsOpenRow : OpenClaim := { program := "ytlngnnkkaepeeaa", sum := "8515e54eaeb7209078beacaf1656cb0c5a86c74bf2199694bf07793a554250b0", func := "loop.example/g01235/laws.FnExactIsOpen", spec := "fnExactIsOpen", recurses := true, apart := false }
def FnExactIsOpenSaid : Prop := fnExactIsOpenRow.holds Try.pinned (OpenSpec.ofChange fnExactIsOpenSpec)

/-- ITS FALSE NEIGHBOUR: 'it returns false'. Refute it at one input. -/
def fnExactIsOpenWrong : ChangeSpec := { name := "fnExactIsOpen", fn := fun _ => fun
  | [d] => { results := [.lit (.bool false)], args := [d] }
  | _ => none }
def FnExactIsOpenWrongFalsely : Prop := fnExactIsOpenRow.holds Try.pinned (OpenSpec.ofChange fnExactIsOpenWrong)

/-- 'laws.FnExactPlacesInPeriod': WHATEVER THE INPUT: true; the input reads as it did. -/
def fnExactPlacesInPeriodSpec : ChangeSpec := { name := "fnExactPlacesInPeriod", fn := fun _ => fun
  | [d1, d2] => { results := [.lit (.bool true)], args := [d1, d2] }
  | _ => none }
def fnExactPlacesInPeriodRow : OpenClaim := { program := "ytlngnnkkaepeeaa", sum := "8515e54eaeb7209078beacaf1656cb0c5a86c74bf2199694bf07793a554250b0", func := "loop.example/g01235/laws.FnExactPlacesInPeriod", spec := "fnExactPlacesInPeriod", recurses := true, apart := false }
def FnExactPlacesInPeriodSaid : Prop := fnExactPlacesInPeriodRow.holds Try.pinned (OpenSpec.ofChange fnExactPlacesInPeriodSpec)

/-- ITS FALSE NEIGHBOUR: 'it returns false'. Refute it at one input. -/
def fnExactPlacesInPeriodWrong : ChangeSpec := { name := "fnExactPlacesInPeriod", fn := fun _ => fun
  | [d1, d2] => { results := [.lit (.bool false)], args := [d1, d2] }
  | _ => none }
def FnExactPlacesInPeriodWrongFalsely : Prop := fnExactPlacesInPeriodRow.holds Try.pinned (OpenSpec.ofChange fnExactPlacesInPeriodWrong)

/-- 'laws.FnExactCountOpen': WHATEVER THE INPUT: true; the input reads as it did. -/
def fnExactCountOpenSpec : ChangeSpec := { name := "fnExactCountOpen", fn := fun _ => fun
  | [d1, d2] => { results := [.lit (.bool true)], args := [d1, d2] }
  | _ => none }
def fnExactCountOpenRow : OpenClaim := { program := "ytlngnnkkaepeeaa", sum := "8515e54eaeb7209078beacaf1656cb0c5a86c74bf2199694bf07793a554250b0", func := "loop.example/g01235/laws.FnExactCountOpen", spec := "fnExactCountOpen", unfollowed := true, recurses := true, apart := false }
def FnExactCountOpenSaid : Prop := fnExactCountOpenRow.holds Try.pinned (OpenSpec.ofChange fnExactCountOpenSpec)

/-- ITS FALSE NEIGHBOUR: 'it returns false'. Refute it at one input. -/
def fnExactCountOpenWrong : ChangeSpec := { name := "fnExactCountOpen", fn := fun _ => fun
  | [d1, d2] => { results := [.lit (.bool false)], args := [d1, d2] }
  | _ => none }
def FnExactCountOpenWrongFalsely : Prop := fnExactCountOpenRow.holds Try.pinned (OpenSpec.ofChange fnExactCountOpenWrong)

/-- 'laws.FnExactShareOfPlaces': WHATEVER THE INPUT: true; the input reads as it did. -/
def fnExactShareOfPlacesSpec : ChangeSpec := { name := "fnExactShareOfPlaces", fn := fun _ => fun
  | [d1, d2] => { results := [.lit (.bool true)], args := [d1, d2] }
  | _ => none }
def fnExactShareOfPlacesRow : OpenClaim := { program := "ytlngnnkkaepeeaa", sum := "8515e54eaeb7209078beacaf1656cb0c5a86c74bf2199694bf07793a554250b0", func := "loop.example/g01235/laws.FnExactShareOfPlaces", spec := "fnExactShareOfPlaces", recurses := true, apart := false }
def FnExactShareOfPlacesSaid : Prop := fnExactShareOfPlacesRow.holds Try.pinned (OpenSpec.ofChange fnExactShareOfPlacesSpec)

/-- ITS FALSE NEIGHBOUR: 'it returns false'. Refute it at one input. -/
def fnExactShareOfPlacesWrong : ChangeSpec := { name := "fnExactShareOfPlaces", fn := fun _ => fun
  | [d1, d2] => { results := [.lit (.bool false)], args := [d1, d2] }
  | _ => none }
def FnExactShareOfPlacesWrongFalsely : Prop := fnExactShareOfPlacesRow.holds Try.pinned (OpenSpec.ofChange fnExactShareOfPlacesWrong)

/-- 'laws.FnExactRestsOf': WHATEVER THE INPUT: true; the input reads as it did. -/
def fnExactRestsOfSpec : ChangeSpec := { name := "fnExactRestsOf", fn := fun _ => fun
  | [d1, d2] => { results := [.lit (.bool true)], args := [d1, d2] }
  | _ => none }
def fnExactRestsOfRow : OpenClaim := { program := "ytlngnnkkaepeeaa", sum := "8515e54eaeb7209078beacaf1656cb0c5a86c74bf2199694bf07793a554250b0", func := "loop.example/g01235/laws.FnExactRestsOf", spec := "fnExactRestsOf", recurses := true, apart := false }
def FnExactRestsOfSaid : Prop := fnExactRestsOfRow.holds Try.pinned (OpenSpec.ofChange fnExactRestsOfSpec)

/-- ITS FALSE NEIGHBOUR: 'it returns false'. Refute it at one input. -/
def fnExactRestsOfWrong : ChangeSpec := { name := "fnExactRestsOf", fn := fun _ => fun
  | [d1, d2] => { results := [.lit (.bool false)], args := [d1, d2] }
  | _ => none }
def FnExactRestsOfWrongFalsely : Prop := fnExactRestsOfRow.holds Try.pinned (OpenSpec.ofChange fnExactRestsOfWrong)

/-- 'laws.FnExactFirstPlaces': WHATEVER THE INPUT: true; the input reads as it did. -/
def fnExactFirstPlacesSpec : ChangeSpec := { name := "fnExactFirstPlaces", fn := fun _ => fun
  | [d1, d2, d3] => { results := [.lit (.bool true)], args := [d1, d2, d3] }
  | _ => none }
def fnExactFirstPlacesRow : OpenClaim := { program := "ytlngnnkkaepeeaa", sum := "8515e54eaeb7209078beacaf1656cb0c5a86c74bf2199694bf07793a554250b0", func := "loop.example/g01235/laws.FnExactFirstPlaces", spec := "fnExactFirstPlaces", unfollowed := true, recurses := true, apart := false }
def FnExactFirstPlacesSaid : Prop := fnExactFirstPlacesRow.holds Try.pinned (OpenSpec.ofChange fnExactFirstPlacesSpec)

/-- ITS FALSE NEIGHBOUR: 'it returns false'. Refute it at one input. -/
def fnExactFirstPlacesWrong : ChangeSpec := { name := "fnExactFirstPlaces", fn := fun _ => fun
  | [d1, d2, d3] => { results := [.lit (.bool false)], args := [d1, d2, d3] }
  | _ => none }
def FnExactFirstPlacesWrongFalsely : Prop := fnExactFirstPlacesRow.holds Try.pinned (OpenSpec.ofChange fnExactFirstPlacesWrong)

/-- 'laws.FnExactNarrowestOpen': WHATEVER THE INPUT: true; the input reads as it did. -/
def fnExactNarrowestOpenSpec : ChangeSpec := { name := "fnExactNarrowestOpen", fn := fun _ => fun
  | [d] => { results := [.lit (.bool true)], args := [d] }
  | _ => none }
def fnExactNarrowestOpenRow : OpenClaim := { program := "ytlngnnkkaepeeaa", sum := "8515e54eaeb7209078beacaf1656cb0c5a86c74bf2199694bf07793a554250b0", func := "loop.example/g01235/laws.FnExactNarrowestOpen", spec := "fnExactNarrowestOpen", unfollowed := true, recurses := true, apart := false }
def FnExactNarrowestOpenSaid : Prop := fnExactNarrowestOpenRow.holds Try.pinned (OpenSpec.ofChange fnExactNarrowestOpenSpec)

/-- ITS FALSE NEIGHBOUR: 'it returns false'. Refute it at one input. -/
def fnExactNarrowestOpenWrong : ChangeSpec := { name := "fnExactNarrowestOpen", fn := fun _ => fun
  | [d] => { results := [.lit (.bool false)], args := [d] }
  | _ => none }
def FnExactNarrowestOpenWrongFalsely : Prop := fnExactNarrowestOpenRow.holds Try.pinned (OpenSpec.ofChange fnExactNarrowestOpenWrong)

/-- 'laws.FnExactAllOpen': WHATEVER THE INPUT: true; the input reads as it did. -/
def fnExactAllOpenSpec : ChangeSpec := { name := "fnExactAllOpen", fn := fun _ => fun
  | [d1, d2] => { results := [.lit (.bool true)], args := [d1, d2] }
  | _ => none }
def fnExactAllOpenRow : OpenClaim := { program := "ytlngnnkkaepeeaa", sum := "8515e54eaeb7209078beacaf1656cb0c5a86c74bf2199694bf07793a554250b0", func := "loop.example/g01235/laws.FnExactAllOpen", spec := "fnExactAllOpen", unfollowed := true, recurses := true, apart := false }
def FnExactAllOpenSaid : Prop := fnExactAllOpenRow.holds Try.pinned (OpenSpec.ofChange fnExactAllOpenSpec)

/-- ITS FALSE NEIGHBOUR: 'it returns false'. Refute it at one input. -/
def fnExactAllOpenWrong : ChangeSpec := { name := "fnExactAllOpen", fn := fun _ => fun
  | [d1, d2] => { results := [.lit (.bool false)], args := [d1, d2] }
  | _ => none }
def FnExactAllOpenWrongFalsely : Prop := fnExactAllOpenRow.holds Try.pinned (OpenSpec.ofChange fnExactAllOpenWrong)

/- THE SECOND FORM. 'bulk': how many values and letters a reading holds, each counted each time it is reached (what is shared counts as often as it is met; a slice's spare places count too). A statement '..UptoSaid' is the law's where the arguments, and the package variables that the reading takes, are together of bulk at most 1048576: NARROWER than '..Said'. Prove '..Said' where nothing that the law and all that it calls make is longer than what came in: it says more and counts as full. Else prove '..UptoSaid'. A law counts once. -/
mutual
def uptoBulk {H : Type} : DataW H → Nat
  | .lit (.string bytes) => bytes.length + 1
  | .lit _ => 1
  | .nil => 1
  | .ptr d => uptoBulk d + 1
  | .slice elems spare => uptoBulkAll elems + uptoBulkAll spare + 1
  | .agg parts => uptoBulkAll parts + 1
  | .iface _ d => uptoBulk d + 1
  | .map entries => uptoBulkEntries entries + 1
  | .held _ => 1
def uptoBulkAll {H : Type} : List (DataW H) → Nat
  | [] => 0
  | d :: r => uptoBulk d + uptoBulkAll r
def uptoBulkEntries {H : Type} : List (Lit × DataW H) → Nat
  | [] => 0
  | x :: r => uptoBulkEntry x + uptoBulkEntries r
def uptoBulkEntry {H : Type} : Lit × DataW H → Nat
  | (.string bytes, d) => bytes.length + uptoBulk d + 1
  | (_, d) => uptoBulk d + 1
 end
def uptoSmall : (H : Type) → List (DataW H) → Bool := fun _ ds => decide (uptoBulkAll ds ≤ 1048576)
def OpenSpec.upto (s : _root_.Go.ChangeSpec) : _root_.Go.OpenSpec := { _root_.Go.OpenSpec.ofChange s with cond := some uptoSmall }

/-- 'laws.FnExactStepSizes', WHERE WHAT IT READS IS OF BULK AT MOST 1048576: true; the input reads as it did. -/
def fnExactStepSizesUptoRow : OpenClaim := { program := "ytlngnnkkaepeeaa", sum := "8515e54eaeb7209078beacaf1656cb0c5a86c74bf2199694bf07793a554250b0", func := "loop.example/g01235/laws.FnExactStepSizes", spec := "fnExactStepSizes", unfollowed := true, recurses := true, apart := false, narrowed := true }
def FnExactStepSizesUptoSaid : Prop := fnExactStepSizesUptoRow.holds Try.pinned (OpenSpec.upto fnExactStepSizesSpec)

/-- 'laws.FnExactFirstClosing', WHERE WHAT IT READS IS OF BULK AT MOST 1048576: true; the input reads as it did. -/
def fnExactFirstClosingUptoRow : OpenClaim := { program := "ytlngnnkkaepeeaa", sum := "8515e54eaeb7209078beacaf1656cb0c5a86c74bf2199694bf07793a554250b0", func := "loop.example/g01235/laws.FnExactFirstClosing", spec := "fnExactFirstClosing", recurses := true, apart := false, narrowed := true }
def FnExactFirstClosingUptoSaid : Prop := fnExactFirstClosingUptoRow.holds Try.pinned (OpenSpec.upto fnExactFirstClosingSpec)

/-- 'laws.FnExactIsOpen', WHERE WHAT IT READS IS OF BULK AT MOST 1048576: true; the input reads as it did. -/
def fnExactIsOpenUptoRow : OpenClaim := { program := "ytlngnnkkaepeeaa", sum := "8515e54eaeb7209078beacaf1656cb0c5a86c74bf2199694bf07793a554250b0", func := "loop.example/g01235/laws.FnExactIsOpen", spec := "fnExactIsOpen", recurses := true, apart := false, narrowed := true }
def FnExactIsOpenUptoSaid : Prop := fnExactIsOpenUptoRow.holds Try.pinned (OpenSpec.upto fnExactIsOpenSpec)

/-- 'laws.FnExactPlacesInPeriod', WHERE WHAT IT READS IS OF BULK AT MOST 1048576: true; the input reads as it did. -/
def fnExactPlacesInPeriodUptoRow : OpenClaim := { program := "ytlngnnkkaepeeaa", sum := "8515e54eaeb7209078beacaf1656cb0c5a86c74bf2199694bf07793a554250b0", func := "loop.example/g01235/laws.FnExactPlacesInPeriod", spec := "fnExactPlacesInPeriod", recurses := true, apart := false, narrowed := true }
def FnExactPlacesInPeriodUptoSaid : Prop := fnExactPlacesInPeriodUptoRow.holds Try.pinned (OpenSpec.upto fnExactPlacesInPeriodSpec)

/-- 'laws.FnExactCountOpen', WHERE WHAT IT READS IS OF BULK AT MOST 1048576: true; the input reads as it did. -/
def fnExactCountOpenUptoRow : OpenClaim := { program := "ytlngnnkkaepeeaa", sum := "8515e54eaeb7209078beacaf1656cb0c5a86c74bf2199694bf07793a554250b0", func := "loop.example/g01235/laws.FnExactCountOpen", spec := "fnExactCountOpen", unfollowed := true, recurses := true, apart := false, narrowed := true }
def FnExactCountOpenUptoSaid : Prop := fnExactCountOpenUptoRow.holds Try.pinned (OpenSpec.upto fnExactCountOpenSpec)

/-- 'laws.FnExactShareOfPlaces', WHERE WHAT IT READS IS OF BULK AT MOST 1048576: true; the input reads as it did. -/
def fnExactShareOfPlacesUptoRow : OpenClaim := { program := "ytlngnnkkaepeeaa", sum := "8515e54eaeb7209078beacaf1656cb0c5a86c74bf2199694bf07793a554250b0", func := "loop.example/g01235/laws.FnExactShareOfPlaces", spec := "fnExactShareOfPlaces", recurses := true, apart := false, narrowed := true }
def FnExactShareOfPlacesUptoSaid : Prop := fnExactShareOfPlacesUptoRow.holds Try.pinned (OpenSpec.upto fnExactShareOfPlacesSpec)

/-- 'laws.FnExactRestsOf', WHERE WHAT IT READS IS OF BULK AT MOST 1048576: true; the input reads as it did. -/
def fnExactRestsOfUptoRow : OpenClaim := { program := "ytlngnnkkaepeeaa", sum := "8515e54eaeb7209078beacaf1656cb0c5a86c74bf2199694bf07793a554250b0", func := "loop.example/g01235/laws.FnExactRestsOf", spec := "fnExactRestsOf", recurses := true, apart := false, narrowed := true }
def FnExactRestsOfUptoSaid : Prop := fnExactRestsOfUptoRow.holds Try.pinned (OpenSpec.upto fnExactRestsOfSpec)

/-- 'laws.FnExactFirstPlaces', WHERE WHAT IT READS IS OF BULK AT MOST 1048576: true; the input reads as it did. -/
def fnExactFirstPlacesUptoRow : OpenClaim := { program := "ytlngnnkkaepeeaa", sum := "8515e54eaeb7209078beacaf1656cb0c5a86c74bf2199694bf07793a554250b0", func := "loop.example/g01235/laws.FnExactFirstPlaces", spec := "fnExactFirstPlaces", unfollowed := true, recurses := true, apart := false, narrowed := true }
def FnExactFirstPlacesUptoSaid : Prop := fnExactFirstPlacesUptoRow.holds Try.pinned (OpenSpec.upto fnExactFirstPlacesSpec)

/-- 'laws.FnExactNarrowestOpen', WHERE WHAT IT READS IS OF BULK AT MOST 1048576: true; the input reads as it did. -/
def fnExactNarrowestOpenUptoRow : OpenClaim := { program := "ytlngnnkkaepeeaa", sum := "8515e54eaeb7209078beacaf1656cb0c5a86c74bf2199694bf07793a554250b0", func := "loop.example/g01235/laws.FnExactNarrowestOpen", spec := "fnExactNarrowestOpen", unfollowed := true, recurses := true, apart := false, narrowed := true }
def FnExactNarrowestOpenUptoSaid : Prop := fnExactNarrowestOpenUptoRow.holds Try.pinned (OpenSpec.upto fnExactNarrowestOpenSpec)

/-- 'laws.FnExactAllOpen', WHERE WHAT IT READS IS OF BULK AT MOST 1048576: true; the input reads as it did. -/
def fnExactAllOpenUptoRow : OpenClaim := { program := "ytlngnnkkaepeeaa", sum := "8515e54eaeb7209078beacaf1656cb0c5a86c74bf2199694bf07793a554250b0", func := "loop.example/g01235/laws.FnExactAllOpen", spec := "fnExactAllOpen", unfollowed := true, recurses := true, apart := false, narrowed := true }
def FnExactAllOpenUptoSaid : Prop := fnExactAllOpenUptoRow.holds Try.pinned (OpenSpec.upto fnExactAllOpenSpec)

end Rows
end Go.Proofs.Ytlngnnkkaepeeaa
