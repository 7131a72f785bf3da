/- the law of the primes that are counted, for all arguments. No condition: the statement's own guards alone. -/
import Derived.Test.YtjonkpeoiecchaaMainFnPrimesCountedOfAll
import Derived.Test.YtjonkpeoiecchaaPx32
namespace Go.Proofs.Ytjonkpeoiecchaa.Pure
open Go.RowKit Go.Proofs.Ytjonkpeoiecchaa.P Go.Proofs.YtjonkpeoiecchaaW.PrintWords Go.Proofs.Ytjonkpeoiecchaa.L
set_option linter.unusedVariables false
set_option linter.unusedSimpArgs false

theorem FnPrimesCountedOfAll : laws_FnPrimesCountedOfAll.Pure := by
  intro a0 a1 a2 a3 a4 a5 h0 h1 h2 h3 h4 h5
  exact (L.FnPrimesCountedOfAll_law a0 a1 a2 a3 a4 a5 h0 h1 h2 h3 h4 h5).get

end Go.Proofs.Ytjonkpeoiecchaa.Pure
