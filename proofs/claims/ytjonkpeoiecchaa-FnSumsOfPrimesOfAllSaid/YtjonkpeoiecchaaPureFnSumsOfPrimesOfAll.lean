/- the law of the sums of two primes, twins, crossers and smooth numbers, for all arguments. No condition: the statement's own guards alone. -/
import Derived.Test.YtjonkpeoiecchaaMainFnSumsOfPrimesOfAll
import Derived.Test.YtjonkpeoiecchaaPx17
namespace Go.Proofs.Ytjonkpeoiecchaa.Pure
open Go.RowKit Go.Proofs.Ytjonkpeoiecchaa.P Go.Proofs.YtjonkpeoiecchaaW.PrintWords Go.Proofs.Ytjonkpeoiecchaa.L
set_option linter.unusedVariables false
set_option linter.unusedSimpArgs false

theorem FnSumsOfPrimesOfAll : laws_FnSumsOfPrimesOfAll.Pure := by
  intro a0 a1 a2 a3 h0 h1 h2 h3
  exact (L.FnSumsOfPrimesOfAll_law a0 a1 a2 a3 h0 h1 h2 h3).get

end Go.Proofs.Ytjonkpeoiecchaa.Pure
