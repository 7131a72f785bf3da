/- AllOpen of the program tells what the reference's tells, for all arguments. No condition: the statement's own guards alone. -/
import Derived.Test.YtlngnnkkaepeeaaMainFnExactAllOpen
import Derived.Test.YtlngnnkkaepeeaaFFAO
namespace Go.Proofs.Ytlngnnkkaepeeaa.Pure
open Go.RowKit Go.Proofs.Ytlngnnkkaepeeaa.P Go.Proofs.YtlngnnkkaepeeaaW.PrintWords Go.Proofs.Ytlngnnkkaepeeaa.L
set_option linter.unusedVariables false
set_option linter.unusedSimpArgs false

theorem FnExactAllOpen : laws_FnExactAllOpen.Pure := by
  intro a0 a1 h0 h1
  exact (L.FnExactAllOpen_law a0 a1).get

end Go.Proofs.Ytlngnnkkaepeeaa.Pure
