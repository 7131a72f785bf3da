/- the law of factors, radicals and least factors, for all arguments. No condition: the statement's own guards alone. -/
import Derived.Test.YtgoldeagghadhaaMainFnFactorsToldOfAll
import Derived.Test.YtgoldeagghadhaaPx14
namespace Go.Proofs.Ytgoldeagghadhaa.Pure
open Go.RowKit Go.Proofs.Ytgoldeagghadhaa.P Go.Proofs.YtgoldeagghadhaaW.PrintWords Go.Proofs.Ytgoldeagghadhaa.L
set_option linter.unusedVariables false
set_option linter.unusedSimpArgs false

theorem FnFactorsToldOfAll : laws_FnFactorsToldOfAll.Pure := by
  intro a0 l1 a2 a3 h0 hm1 hl1 hw1 h2 h3
  exact (L.FnFactorsToldOfAll_law a0 l1 a2 a3 h0 hm1 hl1 hw1 h2 h3).get

end Go.Proofs.Ytgoldeagghadhaa.Pure
