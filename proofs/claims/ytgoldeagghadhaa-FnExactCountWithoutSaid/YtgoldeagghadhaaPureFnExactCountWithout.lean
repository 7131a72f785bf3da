/- CountWithout of the program tells what the reference's tells, for all arguments. No condition: the statement's own guards alone. -/
import Derived.Test.YtgoldeagghadhaaMainFnExactCountWithout
import Derived.Test.YtgoldeagghadhaaPx21
namespace Go.Proofs.Ytgoldeagghadhaa.Pure
open Go.RowKit Go.Proofs.Ytgoldeagghadhaa.P Go.Proofs.YtgoldeagghadhaaW.PrintWords Go.Proofs.Ytgoldeagghadhaa.L
set_option linter.unusedVariables false
set_option linter.unusedSimpArgs false

theorem FnExactCountWithout : laws_FnExactCountWithout.Pure := by
  intro a0 a1 h0 h1
  obtain ⟨r, b, hs, hi⟩ := L.FnExactCountWithout_main a0 a1 h0 h1
  refine Evl.get ?_
  simp only [laws_FnExactCountWithout.f]
  refine Evl.bind hs ?_
  try dsimp only
  refine Evl.bind hi ?_
  try dsimp only
  simp only [if_true, bne_self_eq_false, Bool.false_eq_true, if_false]
  exact Evl.ret _

end Go.Proofs.Ytgoldeagghadhaa.Pure
