/- PrimePlaces of the program tells what the reference's tells, for all arguments. No condition: the statement's own guards alone. -/
import Derived.Test.YtgoldeagghadhaaMainFnExactPrimePlaces
import Derived.Test.YtgoldeagghadhaaPx42
namespace Go.Proofs.Ytgoldeagghadhaa.Pure
open Go.RowKit Go.Proofs.Ytgoldeagghadhaa.P Go.Proofs.YtgoldeagghadhaaW.PrintWords Go.Proofs.Ytgoldeagghadhaa.L
set_option linter.unusedVariables false
set_option linter.unusedSimpArgs false

theorem FnExactPrimePlaces : laws_FnExactPrimePlaces.Pure := by
  intro l0 a1 hm hl hw h1
  refine Evl.get ?_
  by_cases hbig : (l0.length : Int) > 1048576
  · simp only [laws_FnExactPrimePlaces.f, if_pos hbig]
    exact Evl.ret _
  have hl2 : l0.length ≤ 1099511627776 := by omega
  simp only [laws_FnExactPrimePlaces.f, if_neg hbig]
  obtain ⟨r, b, hs, hi, hlr⟩ := L.FnExactPrimePlaces_main l0 a1 hm hl hw h1 hl2
  refine Evl.bind (toIntS_ev l0 hl2) ?_
  try dsimp only
  refine Evl.bind hs ?_
  try dsimp only
  refine Evl.bind (toIntS_ev l0 hl2) ?_
  try dsimp only
  refine Evl.bind hi ?_
  try dsimp only
  refine Evl.bind (eqIntS_self r hlr) ?_
  try dsimp only
  simp only [if_true, bne_self_eq_false, Bool.false_eq_true, if_false]
  refine Evl.succ ?_
  simp only [laws_FnExactPrimePlaces.j0, Bool.false_eq_true, if_false]
  refine Evl.bind (toIntS_ev l0 hl2) ?_
  try dsimp only
  refine Evl.bind (eqIntS_self l0 hl2) ?_
  try dsimp only
  simp only [if_true]
  refine Evl.bind (markIntS_ev l0 hl2) ?_
  try dsimp only
  simp only [if_neg (show ¬ (1 + (l0.length : Int)) < 0 by omega)]
  refine Evl.bind (eqIntS_self r hlr) ?_
  try dsimp only
  simp only [if_true, bne_self_eq_false, Bool.false_eq_true, if_false]
  refine Evl.succ ?_
  simp only [laws_FnExactPrimePlaces.j1, Bool.false_eq_true, if_false]
  refine Evl.bind (markIntS_ev r hlr) ?_
  try dsimp only
  refine Evl.bind (heldIntS_ev r.length hlr) ?_
  try dsimp only
  simp only [if_neg (show ¬ (1 + (r.length : Int)) < 0 by omega), if_true]
  refine Evl.bind (toIntS_ev l0 hl2) ?_
  try dsimp only
  refine Evl.bind hi ?_
  try dsimp only
  refine Evl.bind (eqIntS_self r hlr) ?_
  try dsimp only
  simp only [if_true, bne_self_eq_false, Bool.false_eq_true, if_false]
  refine Evl.succ ?_
  simp only [laws_FnExactPrimePlaces.j2, Bool.false_eq_true, if_false]
  refine Evl.bind (heldIntS_ev r.length hlr) ?_
  try dsimp only
  simp only [if_neg (show ¬ (1 + (r.length : Int)) < 0 by omega), if_true]
  exact Evl.ret _

end Go.Proofs.Ytgoldeagghadhaa.Pure
