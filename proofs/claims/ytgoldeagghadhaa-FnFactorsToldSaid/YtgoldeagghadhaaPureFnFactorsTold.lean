/- the law of factors, radicals and least factors, for all that is drawn. No condition: the statement's own guards alone. -/
import Derived.Test.YtgoldeagghadhaaMainFnFactorsTold
import Derived.Test.YtgoldeagghadhaaPx16
namespace Go.Proofs.Ytgoldeagghadhaa.Pure
open Go.RowKit Go.Proofs.Ytgoldeagghadhaa.P Go.Proofs.YtgoldeagghadhaaW.PrintWords Go.Proofs.Ytgoldeagghadhaa.L
set_option linter.unusedVariables false
set_option linter.unusedSimpArgs false

theorem FnFactorsTold : laws_FnFactorsTold.Pure := by
  intro l0 l1 hm0 hl0 hw0 hm1 hl1 hw1
  exact (L.FnFactorsTold_law l0 l1 hm0 hl0 hw0 hm1 hl1 hw1).get

end Go.Proofs.Ytgoldeagghadhaa.Pure
