/- the law of longest steps, sizes and counts of steps, wheels rolled by primes, symmetric ones and runs of steps, for all arguments. No condition: the statement's own guards alone. -/
import Derived.Test.YtdaodlhcedjfoaaMainFnStepsAroundOfAll
import Derived.Test.YtdaodlhcedjfoaaPx11
namespace Go.Proofs.Ytdaodlhcedjfoaa.Pure
open Go.RowKit Go.Proofs.Ytdaodlhcedjfoaa.P Go.Proofs.YtdaodlhcedjfoaaW.PrintWords Go.Proofs.Ytdaodlhcedjfoaa.L
set_option linter.unusedVariables false
set_option linter.unusedSimpArgs false

theorem FnStepsAroundOfAll : laws_FnStepsAroundOfAll.Pure := by
  intro l0 l1 a2 l3 a4 l5 a6 l7 l8 hm0 hl0 hw0 hm1 hl1 hw1 h2 hm3 hl3 hw3 h4 hm5 hl5 hw5 h6 hm7 hl7 hw7 hm8 hl8 hw8
  exact (L.FnStepsAroundOfAll_law l0 l1 a2 l3 a4 l5 a6 l7 l8 hm0 hl0 hw0 hm1 hl1 hw1 h2 hm3 hl3 hw3 h4 hm5 hl5 hw5 h6 hm7 hl7 hw7 hm8 hl8 hw8).get

end Go.Proofs.Ytdaodlhcedjfoaa.Pure
