/- What the row's last step asks of the program alone: the words at the head of its order of entry, and what is laid out in it. No condition. -/
import Derived.Test.YtdaodlhcedjfoaaRows
import Derived.WalkKit
import Derived.ProofKit
namespace Go.Proofs.Ytdaodlhcedjfoaa.Enter
set_option linter.unusedVariables false
set_option linter.unusedSimpArgs false

def sp : Char := Char.ofNat 32
theorem order : Try.prog.initOrder = "harness d1ad48eb91d1fc30091b43d976af75a2ff7ee724cc1bb0c62d2cff2171b950f8 cut" ++ (" " ++ "at loop.example/g01235/laws.FnWheelsTurnOfAll loop.example/g01235/laws.FnWheelsTurn loop.example/g01235/laws.FnStepsAround loop.example/g01235/laws.FnStepsAroundOfAll") := by kernel_rfl
theorem space : (" " : String).toList = [sp] := by kernel_rfl
theorem sum_ok : isSumSigns "d1ad48eb91d1fc30091b43d976af75a2ff7ee724cc1bb0c62d2cff2171b950f8".toList = true := by kernel_rfl
theorem words0 (r : List Char) : wordsSigns ("harness d1ad48eb91d1fc30091b43d976af75a2ff7ee724cc1bb0c62d2cff2171b950f8 cut".toList ++ sp :: r) = "harness".toList :: "d1ad48eb91d1fc30091b43d976af75a2ff7ee724cc1bb0c62d2cff2171b950f8".toList :: "cut".toList :: wordsSigns r := by kernel_rfl
theorem behind (s : List Char) (r : List (List Char)) (h : isSumSigns s = true) : behindMainWord ("harness".toList :: s :: r) = r := by
  have hb : ("harness".toList == "harness".toList) = true := by kernel_rfl
  simp only [behindMainWord, hb, h, Bool.true_or, Bool.and_self, if_true]
theorem words_of {P : Program} {A B s : String} (ho : P.initOrder = A ++ (" " ++ B)) (hw : ∀ r, wordsSigns (A.toList ++ sp :: r) = "harness".toList :: s.toList :: "cut".toList :: wordsSigns r) (hs : isSumSigns s.toList = true) : behindMainWord (wordsSigns P.initOrder.toList) = "cut".toList :: wordsSigns B.toList := by
  rw [ho, String.toList_append, String.toList_append, space]
  show behindMainWord (wordsSigns (A.toList ++ sp :: B.toList)) = _
  rw [hw]
  exact behind _ _ hs
theorem words : behindMainWord (wordsSigns Try.prog.initOrder.toList) = "cut".toList :: wordsSigns "at loop.example/g01235/laws.FnWheelsTurnOfAll loop.example/g01235/laws.FnWheelsTurn loop.example/g01235/laws.FnStepsAround loop.example/g01235/laws.FnStepsAroundOfAll".toList := words_of order words0 sum_ok
theorem strip (r : List (List Char)) : stripLifts liftWords ("cut".toList :: r) = ([], "cut".toList :: r) := by kernel_rfl
theorem later : Try.prog.laysLater = false := by kernel_rfl
theorem reflect : Try.prog.bearsReflect = false := by kernel_rfl
theorem doors : Try.prog.doorRows = [] := by kernel_rfl
theorem lifts_of {P : Program} {r : List (List Char)} (h : behindMainWord (wordsSigns P.initOrder.toList) = "cut".toList :: r) : P.headLifts = [] := by
  unfold Program.headLifts
  rw [h]
  dsimp only
  rw [strip]
  rfl
theorem cuts : ("cut".toList == "gc".toList) = false ∧ ("cut".toList == "spec".toList) = false ∧ ("cut".toList == "carried".toList) = false ∧ ("cut".toList == "cut".toList) = true := by
  exact ⟨by kernel_rfl, by kernel_rfl, by kernel_rfl, by kernel_rfl⟩
theorem enter_of {P : Program} {r : List (List Char)} (h : behindMainWord (wordsSigns P.initOrder.toList) = "cut".toList :: r) (h1 : P.laysLater = false) (h2 : P.bearsReflect = false) (h3 : P.doorRows = []) : P.mayEnter = true := by
  unfold Program.mayEnter
  rw [h]
  dsimp only
  rw [strip, h1, h2]
  unfold Program.doorFits
  rw [h3, cuts.1, cuts.2.1, cuts.2.2.1]
  rfl
theorem finals_of {P : Program} {r : List (List Char)} (h : behindMainWord (wordsSigns P.initOrder.toList) = "cut".toList :: r) : P.liftsFinal = false := by
  unfold Program.liftsFinal
  rw [lifts_of h, h]
  dsimp only
  rw [List.head?_cons, show (some "cut".toList == some "carried".toList) = false from cuts.2.2.1]
  rfl
theorem made_of {P : Program} {r : List (List Char)} (h : behindMainWord (wordsSigns P.initOrder.toList) = "cut".toList :: r) : P.make = some .cut := by
  unfold Program.make
  rw [h]
  dsimp only
  rw [cuts.1, cuts.2.1, cuts.2.2.2]
  rfl
theorem enter : Try.prog.mayEnter = true := enter_of words later reflect doors
theorem finals : Try.prog.liftsFinal = false := finals_of words
theorem made : Try.prog.make = some .cut := made_of words
theorem out : laidOutB Try.prog = true := by kernel_rfl
theorem mapped : mapsRowed Try.prog = true := by kernel_rfl
theorem keys : Try.prog.plainKeys = true := by kernel_rfl
theorem heard : Try.prog.stopsHeard = true := by kernel_rfl

/-- What is left to ask of the row itself. -/
def rest (P : Program) (f : FuncId) (fn : Func) (s : ChangeSpec) (c : OpenClaim) : Bool :=
  c.wf (OpenSpec.ofChange s) && fn.params.all (P.readableRec ·) && namedTie P c.named s.vars &&
  (c.stops == []) && (P.stops == []) && (c.knobs == []) && (P.stopKnobs == []) &&
  (c.inPlace == P.inPlace f) && (c.unfollowed == P.unfollowed f) && (c.recurses == P.recurses f) && (c.named == P.varsNamed f) &&
  (c.maps == (fn.params.toList ++ s.plain.varTypes P).any (P.mapsRec ·)) && (c.ifaces == (fn.params.toList ++ s.plain.varTypes P).any (P.ifacesRec ·)) && (c.mapsOut == P.mapsAmong fn.resultTypes.toList) &&
  (c.loops == (fn.params.toList ++ s.plain.varTypes P).any (P.loopsFrom ·)) && (c.wideKeys == (fn.params.toList ++ s.plain.varTypes P ++ fn.resultTypes.toList).any (P.wideKeysFrom ·)) &&
  s.vars.all (P.varReadable ·) && fn.resultTypes.all (fun t => P.readableRec t && decide (t < P.types.size)) && (c.ifacesOut == fn.resultTypes.toList.any (P.ifacesRec ·)) && (c.loopsOut == fn.resultTypes.toList.any (P.loopsFrom ·)) && (c.plainKeys == true) && c.shortTexts.isNone && (c.lifted == false) && (some .cut == some c.make) && (c.kinds == (if c.domain.isEmpty then [] else fn.params.toList.map fun t => match P.underlying t with | some (.int k) => some k | _ => none)) && (c.pinned == c.pinnedBy) &&
  (c.veiled == (fn.params.toList ++ s.plain.varTypes P ++ fn.resultTypes.toList).any (P.veiledRec ·)) && c.veiledFits P fn.params.toList (fn.params.toList ++ s.plain.varTypes P ++ fn.resultTypes.toList)
theorem joined_of {P : Program} {f : FuncId} {fn : Func} {s : ChangeSpec} {c : OpenClaim} (e1 : laidOutB P = true) (e2 : mapsRowed P = true) (e3 : P.plainKeys = true) (e4 : P.stopsHeard = true) (e5 : P.mayEnter = true) (e6 : P.liftsFinal = false) (e7 : P.make = some .cut) (h : rest P f fn s c = true) : joinedFacts P f fn s c = true := by
  unfold rest at h
  unfold joinedFacts
  rw [e1, e2, e3, e4, e5, e6, e7]
  simp only [Bool.and_eq_true, and_true, true_and] at h ⊢
  exact h
theorem joined {f : FuncId} {fn : Func} {s : ChangeSpec} {c : OpenClaim} (h : rest Try.prog f fn s c = true) : joinedFacts Try.prog f fn s c = true := joined_of out mapped keys heard enter finals made h
end Go.Proofs.Ytdaodlhcedjfoaa.Enter
