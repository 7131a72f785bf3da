/- StepSizes of the program tells what the reference's tells, for all arguments. No condition: the statement's own guards alone. -/
import Derived.Test.YtlngnnkkaepeeaaMainFnExactStepSizes
import Derived.Test.YtlngnnkkaepeeaaPx18
namespace Go.Proofs.Ytlngnnkkaepeeaa.Pure
open Go.RowKit Go.Proofs.Ytlngnnkkaepeeaa.P Go.Proofs.YtlngnnkkaepeeaaW.PrintWords Go.Proofs.Ytlngnnkkaepeeaa.L
set_option linter.unusedVariables false
set_option linter.unusedSimpArgs false

theorem FnExactStepSizes : laws_FnExactStepSizes.Pure := by
  intro l0 hm0 hl0 hw0
  refine Evl.get ?_
  have hl9 : l0.length ≤ 10000000000000 := by omega
  by_cases hbig : l0.length ≤ 1048576
  case neg =>
    simp only [laws_FnExactStepSizes.f, szRuleS_eq l0 hl9, if_neg hbig, Option.bind_some, if_pos (show (-1 : Int) < 0 by omega)]
    exact Evl.ret _
  have hl2 : l0.length ≤ 1099511627776 := by omega
  have hsz : ¬ (1048576 - (l0.length : Int)) < 0 := by omega
  have hlc : (cp l0).length ≤ 1099511627776 := by rw [cp_length]; exact hl2
  obtain ⟨r, b, hs, hi, hlr⟩ := L.FnExactStepSizes_main (cp l0)  hlc 
  simp only [laws_FnExactStepSizes.f, szRuleS_eq l0 hl9, if_pos hbig, Option.bind_some, if_neg hsz]
  refine Evl.bind (toRuleS_ev l0 hl2) ?_
  try dsimp only
  refine Evl.bind hs ?_
  try dsimp only
  refine Evl.bind (toRuleS_ev l0 hl2) ?_
  try dsimp only
  refine Evl.bind hi ?_
  try dsimp only
  refine Evl.bind (eqIntS_self r hlr) ?_
  try dsimp only
  simp only [if_true, bne_self_eq_false, Bool.false_eq_true, if_false]
  refine Evl.succ ?_
  simp only [laws_FnExactStepSizes.j0, Bool.false_eq_true, if_false]
  refine Evl.bind (toRuleS_ev l0 hl2) ?_
  try dsimp only
  refine Evl.bind (eqRuleS_self (cp l0) hlc) ?_
  try dsimp only
  simp only [if_true]
  refine Evl.bind (markRuleS_ev (cp l0) hlc) ?_
  try dsimp only
  simp only [if_neg (show ¬ (1 + 2 * ((cp l0).length : Int)) < 0 by omega)]
  refine Evl.bind (eqIntS_self r hlr) ?_
  try dsimp only
  simp only [if_true, bne_self_eq_false, Bool.false_eq_true, if_false]
  refine Evl.succ ?_
  simp only [laws_FnExactStepSizes.j1, Bool.false_eq_true, if_false]
  refine Evl.bind (markIntS_ev r hlr) ?_
  try dsimp only
  refine Evl.bind (heldIntS_ev r.length hlr) ?_
  try dsimp only
  simp only [if_neg (show ¬ (1 + (r.length : Int)) < 0 by omega), if_true]
  refine Evl.bind (toRuleS_ev l0 hl2) ?_
  try dsimp only
  refine Evl.bind hi ?_
  try dsimp only
  refine Evl.bind (eqIntS_self r hlr) ?_
  try dsimp only
  simp only [if_true, bne_self_eq_false, Bool.false_eq_true, if_false]
  refine Evl.succ ?_
  simp only [laws_FnExactStepSizes.j2, Bool.false_eq_true, if_false]
  refine Evl.bind (heldIntS_ev r.length hlr) ?_
  try dsimp only
  simp only [if_neg (show ¬ (1 + (r.length : Int)) < 0 by omega), if_true]
  exact Evl.ret _

end Go.Proofs.Ytlngnnkkaepeeaa.Pure
