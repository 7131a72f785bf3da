/- the law of spokes that come again, ranks there and back and steps around, for all that is drawn. No condition: the statement's own guards alone. -/
import Derived.Test.YtdaodlhcedjfoaaMainFnWheelsTurn
import Derived.Test.YtdaodlhcedjfoaaPx26
namespace Go.Proofs.Ytdaodlhcedjfoaa.Pure
open Go.RowKit Go.Proofs.Ytdaodlhcedjfoaa.P Go.Proofs.YtdaodlhcedjfoaaW.PrintWords Go.Proofs.Ytdaodlhcedjfoaa.L
set_option linter.unusedVariables false
set_option linter.unusedSimpArgs false

theorem FnWheelsTurn : laws_FnWheelsTurn.Pure := by
  intro l0 l1 hm0 hl0 hw0 hm1 hl1 hw1
  exact (L.FnWheelsTurn_law l0 l1 hm0 hl0 hw0 hm1 hl1 hw1).get

end Go.Proofs.Ytdaodlhcedjfoaa.Pure
