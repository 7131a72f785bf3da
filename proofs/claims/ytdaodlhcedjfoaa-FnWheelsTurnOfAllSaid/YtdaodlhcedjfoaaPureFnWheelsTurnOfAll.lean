/- the law of spokes that come again, ranks there and back and steps around, for all arguments. No condition: the statement's own guards alone. -/
import Derived.Test.YtdaodlhcedjfoaaMainFnWheelsTurnOfAll
import Derived.Test.YtdaodlhcedjfoaaPx21
namespace Go.Proofs.Ytdaodlhcedjfoaa.Pure
open Go.RowKit Go.Proofs.Ytdaodlhcedjfoaa.P Go.Proofs.YtdaodlhcedjfoaaW.PrintWords Go.Proofs.Ytdaodlhcedjfoaa.L
set_option linter.unusedVariables false
set_option linter.unusedSimpArgs false

theorem FnWheelsTurnOfAll : laws_FnWheelsTurnOfAll.Pure := by
  intro l0 a1 hm hl hw h1
  exact (L.FnWheelsTurnOfAll_law l0 a1 hm hl hw h1).get

end Go.Proofs.Ytdaodlhcedjfoaa.Pure
