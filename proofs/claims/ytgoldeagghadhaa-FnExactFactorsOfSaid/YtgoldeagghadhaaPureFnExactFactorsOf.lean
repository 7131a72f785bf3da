/- FactorsOf of the program tells what the reference's tells, for all arguments. No condition: the statement's own guards alone. -/
import Derived.Test.YtgoldeagghadhaaMainFnExactFactorsOf
import Derived.Test.YtgoldeagghadhaaFF
namespace Go.Proofs.Ytgoldeagghadhaa.Pure
open Go.RowKit Go.Proofs.Ytgoldeagghadhaa.P Go.Proofs.YtgoldeagghadhaaW.PrintWords Go.Proofs.Ytgoldeagghadhaa.L
set_option linter.unusedVariables false
set_option linter.unusedSimpArgs false

theorem FnExactFactorsOf : laws_FnExactFactorsOf.Pure := by
  intro a0 h0
  exact (L.FnExactFactorsOf_law a0).get

end Go.Proofs.Ytgoldeagghadhaa.Pure
