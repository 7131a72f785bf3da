/- CrossersUpTo of the program tells what the reference's tells, for all arguments. No condition: the statement's own guards alone. -/
import Derived.Test.YtgoldeagghadhaaMainFnExactCrossersUpTo
import Derived.Test.YtgoldeagghadhaaPx22
namespace Go.Proofs.Ytgoldeagghadhaa.Pure
open Go.RowKit Go.Proofs.Ytgoldeagghadhaa.P Go.Proofs.YtgoldeagghadhaaW.PrintWords Go.Proofs.Ytgoldeagghadhaa.L
set_option linter.unusedVariables false
set_option linter.unusedSimpArgs false

theorem FnExactCrossersUpTo : laws_FnExactCrossersUpTo.Pure := by
  intro a0 h0
  obtain ⟨r, b, hs, hi, hl⟩ := L.FnExactCrossersUpTo_main a0 h0
  refine Evl.get ?_
  simp only [laws_FnExactCrossersUpTo.f]
  refine Evl.bind hs ?_
  try dsimp only
  refine Evl.bind hi ?_
  try dsimp only
  refine Evl.bind (eqIntS_self r hl) ?_
  try dsimp only
  simp only [if_true, bne_self_eq_false, Bool.false_eq_true, if_false]
  refine Evl.succ ?_
  simp only [laws_FnExactCrossersUpTo.j0, Bool.false_eq_true, if_false]
  refine Evl.bind (markIntS_ev r hl) ?_
  try dsimp only
  refine Evl.bind (heldIntS_ev r.length hl) ?_
  try dsimp only
  simp only [if_neg (show ¬ (1 + (r.length : Int)) < 0 by omega), if_true]
  refine Evl.bind hi ?_
  try dsimp only
  refine Evl.bind (eqIntS_self r hl) ?_
  try dsimp only
  simp only [if_true, bne_self_eq_false, Bool.false_eq_true, if_false]
  refine Evl.succ ?_
  simp only [laws_FnExactCrossersUpTo.j1, Bool.false_eq_true, if_false]
  refine Evl.bind (heldIntS_ev r.length hl) ?_
  try dsimp only
  simp only [if_neg (show ¬ (1 + (r.length : Int)) < 0 by omega), if_true]
  exact Evl.ret _

end Go.Proofs.Ytgoldeagghadhaa.Pure
