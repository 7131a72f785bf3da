/- RadicalOf of the program tells what the reference's tells, for all arguments. No condition: the statement's own guards alone. -/
import Derived.Test.YtgnoijgknjehfaaX1
import Derived.Test.YtgnoijgknjehfaaPx3
namespace Go.Proofs.Ytgnoijgknjehfaa.Pure
open Go.RowKit Go.Proofs.Ytgnoijgknjehfaa.P Go.Proofs.YtgnoijgknjehfaaW.PrintWords Go.Proofs.Ytgnoijgknjehfaa.L
set_option linter.unusedVariables false
set_option linter.unusedSimpArgs false

theorem FnExactRadicalOf : laws_FnExactRadicalOf.Pure := by
  intro a0 h0
  obtain ⟨r, b, hs, hi⟩ := L.FnExactRadicalOf_main a0 h0
  refine Evl.get ?_
  simp only [laws_FnExactRadicalOf.f]
  refine Evl.bind hs ?_
  try dsimp only
  refine Evl.bind hi ?_
  try dsimp only
  simp only [if_true, bne_self_eq_false, Bool.false_eq_true, if_false]
  exact Evl.ret _

end Go.Proofs.Ytgnoijgknjehfaa.Pure
