/- NumberWithRests of the program tells what the reference's tells, for all arguments. No condition: the statement's own guards alone. -/
import Derived.Test.YtgoldeagghadhaaMainFnExactNumberWithRests
import Derived.Test.YtgoldeagghadhaaPx34
namespace Go.Proofs.Ytgoldeagghadhaa.Pure
open Go.RowKit Go.Proofs.Ytgoldeagghadhaa.P Go.Proofs.YtgoldeagghadhaaW.PrintWords Go.Proofs.Ytgoldeagghadhaa.L
set_option linter.unusedVariables false
set_option linter.unusedSimpArgs false

theorem FnExactNumberWithRests : laws_FnExactNumberWithRests.Pure := by
  intro l0 l1 hm0 hl0 hw0 hm1 hl1 hw1
  refine Evl.get ?_
  by_cases hb0 : (l0.length : Int) > 1048576
  · simp only [laws_FnExactNumberWithRests.f, if_pos hb0]
    exact Evl.ret _
  by_cases hb1 : (l1.length : Int) > 1048576
  · simp only [laws_FnExactNumberWithRests.f, if_neg hb0, if_pos hb1]
    exact Evl.ret _
  have hl2 : l0.length ≤ 1099511627776 := by omega
  have hl3 : l1.length ≤ 1099511627776 := by omega
  simp only [laws_FnExactNumberWithRests.f, if_neg hb0, if_neg hb1]
  obtain ⟨r, b, hs, hi⟩ := L.FnExactNumberWithRests_main l0 l1 hm0 hl0 hw0 hm1 hl1 hw1 hl2 hl3
  refine Evl.bind (toIntS_ev l0 hl2) ?_
  try dsimp only
  refine Evl.bind (toIntS_ev l1 hl3) ?_
  try dsimp only
  refine Evl.bind hs ?_
  try dsimp only
  refine Evl.bind (toIntS_ev l0 hl2) ?_
  try dsimp only
  refine Evl.bind (toIntS_ev l1 hl3) ?_
  try dsimp only
  refine Evl.bind hi ?_
  try dsimp only
  simp only [if_true, bne_self_eq_false, Bool.false_eq_true, if_false]
  refine Evl.succ ?_
  simp only [laws_FnExactNumberWithRests.j0, Bool.false_eq_true, if_false]
  refine Evl.bind (toIntS_ev l0 hl2) ?_
  try dsimp only
  refine Evl.bind (eqIntS_self l0 hl2) ?_
  try dsimp only
  simp only [if_true]
  refine Evl.bind (toIntS_ev l1 hl3) ?_
  try dsimp only
  refine Evl.bind (eqIntS_self l1 hl3) ?_
  try dsimp only
  simp only [if_true]
  exact Evl.ret _

end Go.Proofs.Ytgoldeagghadhaa.Pure
