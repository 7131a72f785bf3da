/- the law of longest steps, sizes and counts of steps, wheels rolled by primes, symmetric ones and runs of steps, for all that is drawn. No condition: the statement's own guards alone. -/
import Derived.Test.YtdaodlhcedjfoaaMainFnStepsAround
import Derived.Test.YtdaodlhcedjfoaaPx14
namespace Go.Proofs.Ytdaodlhcedjfoaa.Pure
open Go.RowKit Go.Proofs.Ytdaodlhcedjfoaa.P Go.Proofs.YtdaodlhcedjfoaaW.PrintWords Go.Proofs.Ytdaodlhcedjfoaa.L
set_option linter.unusedVariables false
set_option linter.unusedSimpArgs false

theorem FnStepsAround : laws_FnStepsAround.Pure := by
  intro l0 l1 hm0 hl0 hw0 hm1 hl1 hw1
  exact (L.FnStepsAround_law l0 l1 hm0 hl0 hw0 hm1 hl1 hw1).get

end Go.Proofs.Ytdaodlhcedjfoaa.Pure
