/- the law of the primes that are counted, for all that is drawn. No condition: the statement's own guards alone. -/
import Derived.Test.YtjonkpeoiecchaaMainFnPrimesCounted
import Derived.Test.YtjonkpeoiecchaaPx34
namespace Go.Proofs.Ytjonkpeoiecchaa.Pure
open Go.RowKit Go.Proofs.Ytjonkpeoiecchaa.P Go.Proofs.YtjonkpeoiecchaaW.PrintWords Go.Proofs.Ytjonkpeoiecchaa.L
set_option linter.unusedVariables false
set_option linter.unusedSimpArgs false

theorem FnPrimesCounted : laws_FnPrimesCounted.Pure := by
  intro l0 l1 hm0 hl0 hw0 hm1 hl1 hw1
  exact (L.FnPrimesCounted_law l0 l1 hm0 hl0 hw0 hm1 hl1 hw1).get

end Go.Proofs.Ytjonkpeoiecchaa.Pure
