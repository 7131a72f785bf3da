/- ShareOfPlaces of the program tells what the reference's tells, for all arguments. No condition: the statement's own guards alone. -/
import Derived.Test.YtlngnnkkaepeeaaMainFnExactShareOfPlaces
import Derived.Test.YtlngnnkkaepeeaaPx32
namespace Go.Proofs.Ytlngnnkkaepeeaa.Pure
open Go.RowKit Go.Proofs.Ytlngnnkkaepeeaa.P Go.Proofs.YtlngnnkkaepeeaaW.PrintWords Go.Proofs.Ytlngnnkkaepeeaa.L
set_option linter.unusedVariables false
set_option linter.unusedSimpArgs false

theorem FnExactShareOfPlaces : laws_FnExactShareOfPlaces.Pure := by
  intro l0 a1 hm hl hw h1
  refine Evl.get ?_
  by_cases hbig : (l0.length : Int) > 1048576
  · simp only [laws_FnExactShareOfPlaces.f, if_pos hbig]
    exact Evl.ret _
  have hl2 : l0.length ≤ 1099511627776 := by omega
  simp only [laws_FnExactShareOfPlaces.f, if_neg hbig]
  obtain ⟨r, q, b, hs, hi⟩ := L.FnExactShareOfPlaces_main l0 a1 hm hl hw h1 hl2
  refine Evl.bind (toIntS_ev l0 hl2) ?_
  try dsimp only
  refine Evl.bind hs ?_
  try dsimp only
  refine Evl.bind (toIntS_ev l0 hl2) ?_
  try dsimp only
  refine Evl.bind hi ?_
  try dsimp only
  simp only [if_true, bne_self_eq_false, Bool.false_eq_true, if_false]
  refine Evl.succ ?_
  simp only [laws_FnExactShareOfPlaces.j0, Bool.false_eq_true, if_false]
  refine Evl.bind (toIntS_ev l0 hl2) ?_
  try dsimp only
  refine Evl.bind (eqIntS_self l0 hl2) ?_
  try dsimp only
  simp only [if_true]
  exact Evl.ret _

end Go.Proofs.Ytlngnnkkaepeeaa.Pure
