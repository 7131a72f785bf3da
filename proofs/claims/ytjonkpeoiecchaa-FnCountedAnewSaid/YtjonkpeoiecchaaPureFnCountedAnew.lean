/- the law of counting anew, for all that is drawn. No condition: the statement's own guards alone. -/
import Derived.Test.YtjonkpeoiecchaaMainFnCountedAnew
import Derived.Test.YtjonkpeoiecchaaPx20
namespace Go.Proofs.Ytjonkpeoiecchaa.Pure
open Go.RowKit Go.Proofs.Ytjonkpeoiecchaa.P Go.Proofs.YtjonkpeoiecchaaW.PrintWords Go.Proofs.Ytjonkpeoiecchaa.L
set_option linter.unusedVariables false
set_option linter.unusedSimpArgs false

theorem FnCountedAnew : laws_FnCountedAnew.Pure := by
  intro l0 l1 hm0 hl0 hw0 hm1 hl1 hw1
  exact (L.FnCountedAnew_law l0 l1 hm0 hl0 hw0 hm1 hl1 hw1).get

end Go.Proofs.Ytjonkpeoiecchaa.Pure
