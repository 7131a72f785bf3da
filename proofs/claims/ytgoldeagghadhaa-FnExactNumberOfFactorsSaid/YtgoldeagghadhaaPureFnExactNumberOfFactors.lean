/- NumberOfFactors of the program tells what the reference's tells, for all arguments. No condition: the statement's own guards alone. -/
import Derived.Test.YtgoldeagghadhaaMainFnExactNumberOfFactors
import Derived.Test.YtgoldeagghadhaaPx30
namespace Go.Proofs.Ytgoldeagghadhaa.Pure
open Go.RowKit Go.Proofs.Ytgoldeagghadhaa.P Go.Proofs.YtgoldeagghadhaaW.PrintWords Go.Proofs.Ytgoldeagghadhaa.L
set_option linter.unusedVariables false
set_option linter.unusedSimpArgs false

theorem FnExactNumberOfFactors : laws_FnExactNumberOfFactors.Pure := by
  intro l0 hm hl hw
  refine Evl.get ?_
  have hlb : l0.length ≤ 10000000000000 := by omega
  obtain ⟨z, hz, hzs⟩ := szIntSS_ev l0 hlb (fun x hx => by have := (hw x hx).1; unfold maxLen at this; exact this)
  simp only [laws_FnExactNumberOfFactors.f]
  refine Evl.bind hz ?_
  by_cases c : z < 0
  · simp only [if_pos c]
    exact Evl.ret _
  obtain ⟨h1, h2⟩ := hzs (by omega)
  have h3 : l0.length ≤ 1099511627776 := by omega
  have h4 : wt l0 ≤ 1099511627776 := by omega
  simp only [if_neg c]
  obtain ⟨r, b, hs, hi⟩ := L.FnExactNumberOfFactors_main l0 hm hl hw
  refine Evl.bind (toIntSS_ev l0 h3 h4) ?_
  try dsimp only
  refine Evl.bind hs ?_
  try dsimp only
  refine Evl.bind (toIntSS_ev l0 h3 h4) ?_
  try dsimp only
  refine Evl.bind hi ?_
  try dsimp only
  simp only [if_true, bne_self_eq_false, Bool.false_eq_true, if_false]
  refine Evl.succ ?_
  simp only [laws_FnExactNumberOfFactors.j0, Bool.false_eq_true, if_false]
  refine Evl.bind (toIntSS_ev l0 h3 h4) ?_
  try dsimp only
  refine Evl.bind (eqIntSS_self l0 h3 h4) ?_
  try dsimp only
  simp only [if_true]
  exact Evl.ret _

end Go.Proofs.Ytgoldeagghadhaa.Pure
