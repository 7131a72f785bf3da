/- FirstPlaces of the program tells what the reference's tells, for all arguments. No condition: the statement's own guards alone. -/
import Derived.Test.YtlngnnkkaepeeaaMainFnExactFirstPlaces
import Derived.Test.YtlngnnkkaepeeaaPx40
namespace Go.Proofs.Ytlngnnkkaepeeaa.Pure
open Go.RowKit Go.Proofs.Ytlngnnkkaepeeaa.P Go.Proofs.YtlngnnkkaepeeaaW.PrintWords Go.Proofs.Ytlngnnkkaepeeaa.L
set_option linter.unusedVariables false
set_option linter.unusedSimpArgs false

theorem FnExactFirstPlaces : laws_FnExactFirstPlaces.Pure := by
  intro l0 a1 a2 hm hl hw h1 h2
  refine Evl.get ?_
  by_cases hbig : (l0.length : Int) > 1048576
  · simp only [laws_FnExactFirstPlaces.f, if_pos hbig]
    exact Evl.ret _
  have hl2 : l0.length ≤ 1099511627776 := by omega
  simp only [laws_FnExactFirstPlaces.f, if_neg hbig]
  obtain ⟨r, b, hs, hi, hlr⟩ := L.FnExactFirstPlaces_main l0 a1 a2 hm hl hw h1 h2 hl2
  refine Evl.bind (toIntS_ev l0 hl2) ?_
  try dsimp only
  refine Evl.bind hs ?_
  try dsimp only
  refine Evl.bind (toIntS_ev l0 hl2) ?_
  try dsimp only
  refine Evl.bind hi ?_
  try dsimp only
  refine Evl.bind (eqIntS_self r hlr) ?_
  try dsimp only
  simp only [if_true, bne_self_eq_false, Bool.false_eq_true, if_false]
  refine Evl.succ ?_
  simp only [laws_FnExactFirstPlaces.j0, Bool.false_eq_true, if_false]
  refine Evl.bind (toIntS_ev l0 hl2) ?_
  try dsimp only
  refine Evl.bind (eqIntS_self l0 hl2) ?_
  try dsimp only
  simp only [if_true]
  refine Evl.bind (markIntS_ev l0 hl2) ?_
  try dsimp only
  simp only [if_neg (show ¬ (1 + (l0.length : Int)) < 0 by omega)]
  refine Evl.bind (eqIntS_self r hlr) ?_
  try dsimp only
  simp only [if_true, bne_self_eq_false, Bool.false_eq_true, if_false]
  refine Evl.succ ?_
  simp only [laws_FnExactFirstPlaces.j1, Bool.false_eq_true, if_false]
  refine Evl.bind (markIntS_ev r hlr) ?_
  try dsimp only
  refine Evl.bind (heldIntS_ev r.length hlr) ?_
  try dsimp only
  simp only [if_neg (show ¬ (1 + (r.length : Int)) < 0 by omega), if_true]
  refine Evl.bind (toIntS_ev l0 hl2) ?_
  try dsimp only
  refine Evl.bind hi ?_
  try dsimp only
  refine Evl.bind (eqIntS_self r hlr) ?_
  try dsimp only
  simp only [if_true, bne_self_eq_false, Bool.false_eq_true, if_false]
  refine Evl.succ ?_
  simp only [laws_FnExactFirstPlaces.j2, Bool.false_eq_true, if_false]
  refine Evl.bind (heldIntS_ev r.length hlr) ?_
  try dsimp only
  simp only [if_neg (show ¬ (1 + (r.length : Int)) < 0 by omega), if_true]
  exact Evl.ret _

end Go.Proofs.Ytlngnnkkaepeeaa.Pure
