/- NarrowestOpen of the program tells what the reference's tells, for all arguments. No condition: the statement's own guards alone. -/
import Derived.Test.YtlngnnkkaepeeaaMainFnExactNarrowestOpen
import Derived.Test.YtlngnnkkaepeeaaPx11
namespace Go.Proofs.Ytlngnnkkaepeeaa.Pure
open Go.RowKit Go.Proofs.Ytlngnnkkaepeeaa.P Go.Proofs.YtlngnnkkaepeeaaW.PrintWords Go.Proofs.Ytlngnnkkaepeeaa.L
set_option linter.unusedVariables false
set_option linter.unusedSimpArgs false

theorem FnExactNarrowestOpen : laws_FnExactNarrowestOpen.Pure := by
  intro a0 h0
  exact (L.FnExactNarrowestOpen_law a0 h0).get

end Go.Proofs.Ytlngnnkkaepeeaa.Pure
