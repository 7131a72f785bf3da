-- Printed for this claim by a program of this session, out of the translation. Lean checks it.
import Derived.Test.YtdaodlhcedjfoaaPx0
import Derived.Test.YtdaodlhcedjfoaaPx5
import Derived.Test.YtdaodlhcedjfoaaPx9
import Derived.Test.YtdaodlhcedjfoaaPx10
import Derived.Test.YtdaodlhcedjfoaaPx11
import Derived.Test.YtdaodlhcedjfoaaPx12
import Derived.Test.YtdaodlhcedjfoaaPx13
import Derived.Test.YtdaodlhcedjfoaaPx14
import Derived.Test.YtdaodlhcedjfoaaPx15
import Derived.Test.YtdaodlhcedjfoaaPx17
import Derived.Test.YtdaodlhcedjfoaaPx18
import Derived.Test.YtdaodlhcedjfoaaPx19
import Derived.Test.YtdaodlhcedjfoaaPx20
-- SLIM
namespace Go.Proofs.Ytdaodlhcedjfoaa.P
open Go.RowKit Go.Proofs.YtdaodlhcedjfoaaW.PrintWords Go.Proofs.YtdaodlhcedjfoaaW.PrintLast Go.Proofs.YtdaodlhcedjfoaaW.PrintMore
attribute [local go_sem] max2_int min2_int max_two min_two max_three min_three max_four min_four   -- for this text's walks alone
set_option linter.unusedVariables false
set_option linter.unusedSimpArgs false

/-! ### laws_FnWheelsTurnOfAll: function 3 -/
mutual
def laws_FnWheelsTurnOfAll.j0 : Nat → List (S45) → Int → Int → Bool → Int → Bool → Bool → Int → Bool → List Int → Bool → List Int → Int → Bool → Option (Bool)
 | 0, _, _, _, _, _, _, _, _, _, _, _, _, _, _ => none
 | k + 1, x0, x1, x5, x6, x9, x10, x13, x17, x18, x21, x22, x25, x29, x234 => if x234 = true then (none) else (if x22 = true then ((impl_PeriodOfRules.f k x0).bind fun bt305 => ((impl_LeftInPeriod.f k x0).bind fun bt307 => (if bt305.2 = true then (if bt307.2 = true then (if bt307.1 = x29 then (if (x21.length : Int) = x29 then (if (x25.length : Int) = x29 then ((laws_gSum.f k x25).bind fun t309 => (if t309 = bt305.1 then (if x29 < 1 then (none) else (laws_FnWheelsTurnOfAll.l0 k x0 x1 x5 x6 x9 x10 x13 x17 x18 x21 x25 bt305.1 x21 (x21.length : Int) 0)) else (none))) else (none)) else (none)) else (none)) else (none)) else (none)))) else (some true))
def laws_FnWheelsTurnOfAll.l0 : Nat → List (S45) → Int → Int → Bool → Int → Bool → Bool → Int → Bool → List Int → List Int → Int → List Int → Int → Int → Option (Bool)
 | 0, _, _, _, _, _, _, _, _, _, _, _, _, _, _, _ => none
 | k + 1, x0, x1, x5, x6, x9, x10, x13, x17, x18, x21, x25, x33, x280, x281, x282 => if x282 < x281 then (if 0 ≤ x282 then (if x282 < (x280.length : Int) then (if (rd x280 x282) < 1 then (none) else (if (rd x280 x282) > x33 then (none) else (if x282 > 0 then (if 0 ≤ (wrap64 (x282 - 1)) then (if (wrap64 (x282 - 1)) < (x21.length : Int) then (if (wrap64 (x282 - 1)) < (x25.length : Int) then (laws_FnWheelsTurnOfAll.j2 k x0 x1 x5 x6 x9 x10 x13 x17 x18 x21 x25 x33 (rd x280 x282) x280 x281 x282 ((wrap64 ((rd x280 x282) - (rd x21 (wrap64 (x282 - 1))))) != (rd x25 (wrap64 (x282 - 1))))) else (none)) else (none)) else (none)) else (laws_FnWheelsTurnOfAll.j2 k x0 x1 x5 x6 x9 x10 x13 x17 x18 x21 x25 x33 (rd x280 x282) x280 x281 x282 false)))) else (none)) else (none)) else (if x6 = true then (laws_FnWheelsTurnOfAll.j3 k x0 x1 x5 x9 x10 x13 x17 x18 (decide (x5 ≤ 1000000000))) else (laws_FnWheelsTurnOfAll.j3 k x0 x1 x5 x9 x10 x13 x17 x18 false))
def laws_FnWheelsTurnOfAll.j2 : Nat → List (S45) → Int → Int → Bool → Int → Bool → Bool → Int → Bool → List Int → List Int → Int → Int → List Int → Int → Int → Bool → Option (Bool)
 | 0, _, _, _, _, _, _, _, _, _, _, _, _, _, _, _, _, _ => none
 | k + 1, x0, x1, x5, x6, x9, x10, x13, x17, x18, x21, x25, x33, x38, x280, x281, x282, x312 => if x312 = true then (none) else ((impl_IsSpoke.f k x0 (wrap64 (x38 + (wrap64 (3 * x33))))).bind fun bt313 => (if bt313.2 = true then (if bt313.1 = true then (laws_FnWheelsTurnOfAll.l0 k x0 x1 x5 x6 x9 x10 x13 x17 x18 x21 x25 x33 x280 x281 (wrap64 (x282 + 1))) else (none)) else (none)))
def laws_FnWheelsTurnOfAll.j3 : Nat → List (S45) → Int → Int → Int → Bool → Bool → Int → Bool → Bool → Option (Bool)
 | 0, _, _, _, _, _, _, _, _, _ => none
 | k + 1, x0, x1, x5, x9, x10, x13, x17, x18, x333 => if x333 = true then ((impl_RankOfSpoke.f k x0 x5).bind fun bt315 => (if bt315.2 = true then (if bt315.1 = x1 then (laws_FnWheelsTurnOfAll.j4 k x0 x1 x9 x10 x13 x17 x18) else (none)) else (none))) else (laws_FnWheelsTurnOfAll.j4 k x0 x1 x9 x10 x13 x17 x18)
def laws_FnWheelsTurnOfAll.j4 : Nat → List (S45) → Int → Int → Bool → Bool → Int → Bool → Option (Bool)
 | 0, _, _, _, _, _, _, _ => none
 | k + 1, x0, x1, x9, x10, x13, x17, x18 => if x10 = true then ((impl_SpokeOfRank.f k x0 x9).bind fun bt317 => (if bt317.2 = true then (if bt317.1 = x1 then (laws_FnWheelsTurnOfAll.j5 k x0 x1 x13 x17 x18) else (none)) else (none))) else (laws_FnWheelsTurnOfAll.j5 k x0 x1 x13 x17 x18)
def laws_FnWheelsTurnOfAll.j5 : Nat → List (S45) → Int → Bool → Int → Bool → Option (Bool)
 | 0, _, _, _, _, _ => none
 | k + 1, x0, x1, x13, x17, x18 => if x18 = true then (if (wrap64 (x17 - x1)) < 0 then (laws_FnWheelsTurnOfAll.j6 k x0 x1 x13 x17 (wrap64 (-(wrap64 (x17 - x1))))) else (laws_FnWheelsTurnOfAll.j6 k x0 x1 x13 x17 (wrap64 (x17 - x1)))) else (some true)
def laws_FnWheelsTurnOfAll.j6 : Nat → List (S45) → Int → Bool → Int → Int → Option (Bool)
 | 0, _, _, _, _, _ => none
 | k + 1, x0, x1, x13, x17, x45 => if (x13 != (x45 == 0)) = true then (laws_FnWheelsTurnOfAll.j7 k x0 x1 x13 x17 x45 true) else (if (wrap64 (x1 + x45)) ≤ 1000000000 then (if (wrap64 (x1 - x45)) ≥ 0 then (laws_FnWheelsTurnOfAll.j7 k x0 x1 x13 x17 x45 (decide (x45 > 0))) else (laws_FnWheelsTurnOfAll.j7 k x0 x1 x13 x17 x45 false)) else (laws_FnWheelsTurnOfAll.j7 k x0 x1 x13 x17 x45 false))
def laws_FnWheelsTurnOfAll.j7 : Nat → List (S45) → Int → Bool → Int → Int → Bool → Option (Bool)
 | 0, _, _, _, _, _, _ => none
 | k + 1, x0, x1, x13, x17, x45, x388 => if x388 = true then ((impl_IsSpoke.f k x0 (wrap64 (x1 - x45))).bind fun bt319 => ((impl_IsSpoke.f k x0 (wrap64 (x1 + x45))).bind fun bt321 => (if x13 = true then (none) else (if bt319.2 = true then (if bt321.2 = true then (if bt319.1 = true then (if x17 > x1 then (none) else (some true)) else (if bt321.1 = true then (if x17 > x1 then (some true) else (some true)) else (none))) else (none)) else (none))))) else (some true)
end
def laws_FnWheelsTurnOfAll.f (k : Nat) (l0 : List (S45)) (a1 : Int) : Option (Bool) := if (l0.length : Int) > 10000 then (some true) else ((impl_SpokeOfRank.f k l0 a1).bind fun bt267 => ((spec_SpokeOfRank.f k l0 a1).bind fun bt269 => ((impl_RankOfSpoke.f k l0 a1).bind fun bt271 => ((spec_RankOfSpoke.f k l0 a1).bind fun bt273 => ((impl_IsSpoke.f k l0 a1).bind fun bt275 => ((spec_IsSpoke.f k l0 a1).bind fun bt277 => ((impl_SpokeNear.f k l0 a1).bind fun bt279 => ((spec_SpokeNear.f k l0 a1).bind fun bt281 => ((impl_SpokesOf.f k l0).bind fun bt283 => ((spec_SpokesOf.f k l0).bind fun bt287 => ((impl_StepsOf.f k l0).bind fun bt291 => ((spec_StepsOf.f k l0).bind fun bt295 => ((impl_CountSpokes.f k l0).bind fun bt299 => ((spec_CountSpokes.f k l0).bind fun bt301 => (if (bt267.2 != bt269.2) = true then (none) else (if bt267.1 = bt269.1 then (if (bt271.2 != bt273.2) = true then (none) else (if bt271.1 = bt273.1 then (if (bt275.2 != bt277.2) = true then (none) else (if (bt275.1 != bt277.1) = true then (none) else (if (bt279.2 != bt281.2) = true then (none) else (if bt279.1 = bt281.1 then (if (bt283.2 != bt287.2) = true then (none) else ((laws_gSame.f k bt283.1 bt287.1).bind fun t303 => (if t303 = true then (if (bt291.2 != bt295.2) = true then (none) else ((laws_gSame.f k bt291.1 bt295.1).bind fun t304 => (if t304 = true then (if (bt299.2 != bt301.2) = true then (none) else (if bt299.1 = bt301.1 then (if (bt291.2 != bt283.2) = true then (none) else (if (bt299.2 != bt283.2) = true then (none) else (if bt275.2 = true then (if bt275.1 = true then (if (bt271.2 != (decide (a1 > 0))) = true then (none) else (if bt283.2 = true then (laws_FnWheelsTurnOfAll.j0 k l0 a1 bt267.1 bt267.2 bt271.1 bt271.2 bt275.1 bt279.1 bt279.2 bt283.1 bt283.2 bt291.1 bt299.1 (bt279.2 != bt275.2)) else (none))) else (if (bt271.2 != false) = true then (none) else (if bt283.2 = true then (laws_FnWheelsTurnOfAll.j0 k l0 a1 bt267.1 bt267.2 bt271.1 bt271.2 bt275.1 bt279.1 bt279.2 bt283.1 bt283.2 bt291.1 bt299.1 (bt279.2 != bt275.2)) else (none)))) else (if (bt271.2 != false) = true then (none) else (laws_FnWheelsTurnOfAll.j0 k l0 a1 bt267.1 bt267.2 bt271.1 bt271.2 bt275.1 bt279.1 bt279.2 bt283.1 bt283.2 bt291.1 bt299.1 (bt279.2 != bt275.2)))))) else (none))) else (none)))) else (none)))) else (none))))) else (none))) else (none)))))))))))))))))
theorem laws_FnWheelsTurnOfAll.mono_l : ∀ k, (∀ y0 y1 y2 y3 y4 y5 y6 y7 y8 y9 y10 y11 y12 y13, LeO (laws_FnWheelsTurnOfAll.j0 k y0 y1 y2 y3 y4 y5 y6 y7 y8 y9 y10 y11 y12 y13) (laws_FnWheelsTurnOfAll.j0 (k + 1) y0 y1 y2 y3 y4 y5 y6 y7 y8 y9 y10 y11 y12 y13)) ∧ (∀ y0 y1 y2 y3 y4 y5 y6 y7 y8 y9 y10 y11 y12 y13 y14, LeO (laws_FnWheelsTurnOfAll.l0 k y0 y1 y2 y3 y4 y5 y6 y7 y8 y9 y10 y11 y12 y13 y14) (laws_FnWheelsTurnOfAll.l0 (k + 1) y0 y1 y2 y3 y4 y5 y6 y7 y8 y9 y10 y11 y12 y13 y14)) ∧ (∀ y0 y1 y2 y3 y4 y5 y6 y7 y8 y9 y10 y11 y12 y13 y14 y15 y16, LeO (laws_FnWheelsTurnOfAll.j2 k y0 y1 y2 y3 y4 y5 y6 y7 y8 y9 y10 y11 y12 y13 y14 y15 y16) (laws_FnWheelsTurnOfAll.j2 (k + 1) y0 y1 y2 y3 y4 y5 y6 y7 y8 y9 y10 y11 y12 y13 y14 y15 y16)) ∧ (∀ y0 y1 y2 y3 y4 y5 y6 y7 y8, LeO (laws_FnWheelsTurnOfAll.j3 k y0 y1 y2 y3 y4 y5 y6 y7 y8) (laws_FnWheelsTurnOfAll.j3 (k + 1) y0 y1 y2 y3 y4 y5 y6 y7 y8)) ∧ (∀ y0 y1 y2 y3 y4 y5 y6, LeO (laws_FnWheelsTurnOfAll.j4 k y0 y1 y2 y3 y4 y5 y6) (laws_FnWheelsTurnOfAll.j4 (k + 1) y0 y1 y2 y3 y4 y5 y6)) ∧ (∀ y0 y1 y2 y3 y4, LeO (laws_FnWheelsTurnOfAll.j5 k y0 y1 y2 y3 y4) (laws_FnWheelsTurnOfAll.j5 (k + 1) y0 y1 y2 y3 y4)) ∧ (∀ y0 y1 y2 y3 y4, LeO (laws_FnWheelsTurnOfAll.j6 k y0 y1 y2 y3 y4) (laws_FnWheelsTurnOfAll.j6 (k + 1) y0 y1 y2 y3 y4)) ∧ (∀ y0 y1 y2 y3 y4 y5, LeO (laws_FnWheelsTurnOfAll.j7 k y0 y1 y2 y3 y4 y5) (laws_FnWheelsTurnOfAll.j7 (k + 1) y0 y1 y2 y3 y4 y5))
 | 0 => ⟨fun _ _ _ _ _ _ _ _ _ _ _ _ _ _ r h => by simp [laws_FnWheelsTurnOfAll.j0] at h, fun _ _ _ _ _ _ _ _ _ _ _ _ _ _ _ r h => by simp [laws_FnWheelsTurnOfAll.l0] at h, fun _ _ _ _ _ _ _ _ _ _ _ _ _ _ _ _ _ r h => by simp [laws_FnWheelsTurnOfAll.j2] at h, fun _ _ _ _ _ _ _ _ _ r h => by simp [laws_FnWheelsTurnOfAll.j3] at h, fun _ _ _ _ _ _ _ r h => by simp [laws_FnWheelsTurnOfAll.j4] at h, fun _ _ _ _ _ r h => by simp [laws_FnWheelsTurnOfAll.j5] at h, fun _ _ _ _ _ r h => by simp [laws_FnWheelsTurnOfAll.j6] at h, fun _ _ _ _ _ _ r h => by simp [laws_FnWheelsTurnOfAll.j7] at h⟩
 | k + 1 => by
  obtain ⟨ih0, ih1, ih2, ih3, ih4, ih5, ih6, ih7⟩ := laws_FnWheelsTurnOfAll.mono_l k
  refine ⟨?_, ?_, ?_, ?_, ?_, ?_, ?_, ?_⟩
  ·intro y0 y1 y2 y3 y4 y5 y6 y7 y8 y9 y10 y11 y12 y13
   unfold laws_FnWheelsTurnOfAll.j0
   repeat' first
   | (with_reducible exact ih0 _ _ _ _ _ _ _ _ _ _ _ _ _ _)
   | (with_reducible exact ih1 _ _ _ _ _ _ _ _ _ _ _ _ _ _ _)
   | (with_reducible exact ih2 _ _ _ _ _ _ _ _ _ _ _ _ _ _ _ _ _)
   | (with_reducible exact ih3 _ _ _ _ _ _ _ _ _)
   | (with_reducible exact ih4 _ _ _ _ _ _ _)
   | (with_reducible exact ih5 _ _ _ _ _)
   | (with_reducible exact ih6 _ _ _ _ _)
   | (with_reducible exact ih7 _ _ _ _ _ _)
   | (with_reducible exact impl_CountSpokes.mono _ _)
   | (with_reducible exact impl_IsSpoke.mono _ _ _)
   | (with_reducible exact impl_LeftInPeriod.mono _ _)
   | (with_reducible exact impl_PeriodOfRules.mono _ _)
   | (with_reducible exact impl_RankOfSpoke.mono _ _ _)
   | (with_reducible exact impl_SpokeNear.mono _ _ _)
   | (with_reducible exact impl_SpokeOfRank.mono _ _ _)
   | (with_reducible exact impl_SpokesOf.mono _ _)
   | (with_reducible exact impl_StepsOf.mono _ _)
   | (with_reducible exact laws_gSame.mono _ _ _)
   | (with_reducible exact laws_gSum.mono _ _)
   | (with_reducible exact spec_CountSpokes.mono _ _)
   | (with_reducible exact spec_IsSpoke.mono _ _ _)
   | (with_reducible exact spec_RankOfSpoke.mono _ _ _)
   | (with_reducible exact spec_SpokeNear.mono _ _ _)
   | (with_reducible exact spec_SpokeOfRank.mono _ _ _)
   | (with_reducible exact spec_SpokesOf.mono _ _)
   | (with_reducible exact spec_StepsOf.mono _ _)
   | (with_reducible exact LeO.refl _)
   | (with_reducible exact LeO.none _)
   | (with_reducible refine LeO.ite ?_ ?_)
   | (with_reducible refine LeO.bind ?_ (fun _ => ?_))
   | exact ih0 _ _ _ _ _ _ _ _ _ _ _ _ _ _
   | exact ih1 _ _ _ _ _ _ _ _ _ _ _ _ _ _ _
   | exact ih2 _ _ _ _ _ _ _ _ _ _ _ _ _ _ _ _ _
   | exact ih3 _ _ _ _ _ _ _ _ _
   | exact ih4 _ _ _ _ _ _ _
   | exact ih5 _ _ _ _ _
   | exact ih6 _ _ _ _ _
   | exact ih7 _ _ _ _ _ _
   | exact impl_CountSpokes.mono _ _
   | exact impl_IsSpoke.mono _ _ _
   | exact impl_LeftInPeriod.mono _ _
   | exact impl_PeriodOfRules.mono _ _
   | exact impl_RankOfSpoke.mono _ _ _
   | exact impl_SpokeNear.mono _ _ _
   | exact impl_SpokeOfRank.mono _ _ _
   | exact impl_SpokesOf.mono _ _
   | exact impl_StepsOf.mono _ _
   | exact laws_gSame.mono _ _ _
   | exact laws_gSum.mono _ _
   | exact spec_CountSpokes.mono _ _
   | exact spec_IsSpoke.mono _ _ _
   | exact spec_RankOfSpoke.mono _ _ _
   | exact spec_SpokeNear.mono _ _ _
   | exact spec_SpokeOfRank.mono _ _ _
   | exact spec_SpokesOf.mono _ _
   | exact spec_StepsOf.mono _ _
   | exact LeO.none _
   | refine LeO.ite ?_ ?_
   | refine LeO.bind ?_ (fun _ => ?_)
  ·intro y0 y1 y2 y3 y4 y5 y6 y7 y8 y9 y10 y11 y12 y13 y14
   unfold laws_FnWheelsTurnOfAll.l0
   repeat' first
   | (with_reducible exact ih0 _ _ _ _ _ _ _ _ _ _ _ _ _ _)
   | (with_reducible exact ih1 _ _ _ _ _ _ _ _ _ _ _ _ _ _ _)
   | (with_reducible exact ih2 _ _ _ _ _ _ _ _ _ _ _ _ _ _ _ _ _)
   | (with_reducible exact ih3 _ _ _ _ _ _ _ _ _)
   | (with_reducible exact ih4 _ _ _ _ _ _ _)
   | (with_reducible exact ih5 _ _ _ _ _)
   | (with_reducible exact ih6 _ _ _ _ _)
   | (with_reducible exact ih7 _ _ _ _ _ _)
   | (with_reducible exact impl_CountSpokes.mono _ _)
   | (with_reducible exact impl_IsSpoke.mono _ _ _)
   | (with_reducible exact impl_LeftInPeriod.mono _ _)
   | (with_reducible exact impl_PeriodOfRules.mono _ _)
   | (with_reducible exact impl_RankOfSpoke.mono _ _ _)
   | (with_reducible exact impl_SpokeNear.mono _ _ _)
   | (with_reducible exact impl_SpokeOfRank.mono _ _ _)
   | (with_reducible exact impl_SpokesOf.mono _ _)
   | (with_reducible exact impl_StepsOf.mono _ _)
   | (with_reducible exact laws_gSame.mono _ _ _)
   | (with_reducible exact laws_gSum.mono _ _)
   | (with_reducible exact spec_CountSpokes.mono _ _)
   | (with_reducible exact spec_IsSpoke.mono _ _ _)
   | (with_reducible exact spec_RankOfSpoke.mono _ _ _)
   | (with_reducible exact spec_SpokeNear.mono _ _ _)
   | (with_reducible exact spec_SpokeOfRank.mono _ _ _)
   | (with_reducible exact spec_SpokesOf.mono _ _)
   | (with_reducible exact spec_StepsOf.mono _ _)
   | (with_reducible exact LeO.refl _)
   | (with_reducible exact LeO.none _)
   | (with_reducible refine LeO.ite ?_ ?_)
   | (with_reducible refine LeO.bind ?_ (fun _ => ?_))
   | exact ih0 _ _ _ _ _ _ _ _ _ _ _ _ _ _
   | exact ih1 _ _ _ _ _ _ _ _ _ _ _ _ _ _ _
   | exact ih2 _ _ _ _ _ _ _ _ _ _ _ _ _ _ _ _ _
   | exact ih3 _ _ _ _ _ _ _ _ _
   | exact ih4 _ _ _ _ _ _ _
   | exact ih5 _ _ _ _ _
   | exact ih6 _ _ _ _ _
   | exact ih7 _ _ _ _ _ _
   | exact impl_CountSpokes.mono _ _
   | exact impl_IsSpoke.mono _ _ _
   | exact impl_LeftInPeriod.mono _ _
   | exact impl_PeriodOfRules.mono _ _
   | exact impl_RankOfSpoke.mono _ _ _
   | exact impl_SpokeNear.mono _ _ _
   | exact impl_SpokeOfRank.mono _ _ _
   | exact impl_SpokesOf.mono _ _
   | exact impl_StepsOf.mono _ _
   | exact laws_gSame.mono _ _ _
   | exact laws_gSum.mono _ _
   | exact spec_CountSpokes.mono _ _
   | exact spec_IsSpoke.mono _ _ _
   | exact spec_RankOfSpoke.mono _ _ _
   | exact spec_SpokeNear.mono _ _ _
   | exact spec_SpokeOfRank.mono _ _ _
   | exact spec_SpokesOf.mono _ _
   | exact spec_StepsOf.mono _ _
   | exact LeO.none _
   | refine LeO.ite ?_ ?_
   | refine LeO.bind ?_ (fun _ => ?_)
  ·intro y0 y1 y2 y3 y4 y5 y6 y7 y8 y9 y10 y11 y12 y13 y14 y15 y16
   unfold laws_FnWheelsTurnOfAll.j2
   repeat' first
   | (with_reducible exact ih0 _ _ _ _ _ _ _ _ _ _ _ _ _ _)
   | (with_reducible exact ih1 _ _ _ _ _ _ _ _ _ _ _ _ _ _ _)
   | (with_reducible exact ih2 _ _ _ _ _ _ _ _ _ _ _ _ _ _ _ _ _)
   | (with_reducible exact ih3 _ _ _ _ _ _ _ _ _)
   | (with_reducible exact ih4 _ _ _ _ _ _ _)
   | (with_reducible exact ih5 _ _ _ _ _)
   | (with_reducible exact ih6 _ _ _ _ _)
   | (with_reducible exact ih7 _ _ _ _ _ _)
   | (with_reducible exact impl_CountSpokes.mono _ _)
   | (with_reducible exact impl_IsSpoke.mono _ _ _)
   | (with_reducible exact impl_LeftInPeriod.mono _ _)
   | (with_reducible exact impl_PeriodOfRules.mono _ _)
   | (with_reducible exact impl_RankOfSpoke.mono _ _ _)
   | (with_reducible exact impl_SpokeNear.mono _ _ _)
   | (with_reducible exact impl_SpokeOfRank.mono _ _ _)
   | (with_reducible exact impl_SpokesOf.mono _ _)
   | (with_reducible exact impl_StepsOf.mono _ _)
   | (with_reducible exact laws_gSame.mono _ _ _)
   | (with_reducible exact laws_gSum.mono _ _)
   | (with_reducible exact spec_CountSpokes.mono _ _)
   | (with_reducible exact spec_IsSpoke.mono _ _ _)
   | (with_reducible exact spec_RankOfSpoke.mono _ _ _)
   | (with_reducible exact spec_SpokeNear.mono _ _ _)
   | (with_reducible exact spec_SpokeOfRank.mono _ _ _)
   | (with_reducible exact spec_SpokesOf.mono _ _)
   | (with_reducible exact spec_StepsOf.mono _ _)
   | (with_reducible exact LeO.refl _)
   | (with_reducible exact LeO.none _)
   | (with_reducible refine LeO.ite ?_ ?_)
   | (with_reducible refine LeO.bind ?_ (fun _ => ?_))
   | exact ih0 _ _ _ _ _ _ _ _ _ _ _ _ _ _
   | exact ih1 _ _ _ _ _ _ _ _ _ _ _ _ _ _ _
   | exact ih2 _ _ _ _ _ _ _ _ _ _ _ _ _ _ _ _ _
   | exact ih3 _ _ _ _ _ _ _ _ _
   | exact ih4 _ _ _ _ _ _ _
   | exact ih5 _ _ _ _ _
   | exact ih6 _ _ _ _ _
   | exact ih7 _ _ _ _ _ _
   | exact impl_CountSpokes.mono _ _
   | exact impl_IsSpoke.mono _ _ _
   | exact impl_LeftInPeriod.mono _ _
   | exact impl_PeriodOfRules.mono _ _
   | exact impl_RankOfSpoke.mono _ _ _
   | exact impl_SpokeNear.mono _ _ _
   | exact impl_SpokeOfRank.mono _ _ _
   | exact impl_SpokesOf.mono _ _
   | exact impl_StepsOf.mono _ _
   | exact laws_gSame.mono _ _ _
   | exact laws_gSum.mono _ _
   | exact spec_CountSpokes.mono _ _
   | exact spec_IsSpoke.mono _ _ _
   | exact spec_RankOfSpoke.mono _ _ _
   | exact spec_SpokeNear.mono _ _ _
   | exact spec_SpokeOfRank.mono _ _ _
   | exact spec_SpokesOf.mono _ _
   | exact spec_StepsOf.mono _ _
   | exact LeO.none _
   | refine LeO.ite ?_ ?_
   | refine LeO.bind ?_ (fun _ => ?_)
  ·intro y0 y1 y2 y3 y4 y5 y6 y7 y8
   unfold laws_FnWheelsTurnOfAll.j3
   repeat' first
   | (with_reducible exact ih0 _ _ _ _ _ _ _ _ _ _ _ _ _ _)
   | (with_reducible exact ih1 _ _ _ _ _ _ _ _ _ _ _ _ _ _ _)
   | (with_reducible exact ih2 _ _ _ _ _ _ _ _ _ _ _ _ _ _ _ _ _)
   | (with_reducible exact ih3 _ _ _ _ _ _ _ _ _)
   | (with_reducible exact ih4 _ _ _ _ _ _ _)
   | (with_reducible exact ih5 _ _ _ _ _)
   | (with_reducible exact ih6 _ _ _ _ _)
   | (with_reducible exact ih7 _ _ _ _ _ _)
   | (with_reducible exact impl_CountSpokes.mono _ _)
   | (with_reducible exact impl_IsSpoke.mono _ _ _)
   | (with_reducible exact impl_LeftInPeriod.mono _ _)
   | (with_reducible exact impl_PeriodOfRules.mono _ _)
   | (with_reducible exact impl_RankOfSpoke.mono _ _ _)
   | (with_reducible exact impl_SpokeNear.mono _ _ _)
   | (with_reducible exact impl_SpokeOfRank.mono _ _ _)
   | (with_reducible exact impl_SpokesOf.mono _ _)
   | (with_reducible exact impl_StepsOf.mono _ _)
   | (with_reducible exact laws_gSame.mono _ _ _)
   | (with_reducible exact laws_gSum.mono _ _)
   | (with_reducible exact spec_CountSpokes.mono _ _)
   | (with_reducible exact spec_IsSpoke.mono _ _ _)
   | (with_reducible exact spec_RankOfSpoke.mono _ _ _)
   | (with_reducible exact spec_SpokeNear.mono _ _ _)
   | (with_reducible exact spec_SpokeOfRank.mono _ _ _)
   | (with_reducible exact spec_SpokesOf.mono _ _)
   | (with_reducible exact spec_StepsOf.mono _ _)
   | (with_reducible exact LeO.refl _)
   | (with_reducible exact LeO.none _)
   | (with_reducible refine LeO.ite ?_ ?_)
   | (with_reducible refine LeO.bind ?_ (fun _ => ?_))
   | exact ih0 _ _ _ _ _ _ _ _ _ _ _ _ _ _
   | exact ih1 _ _ _ _ _ _ _ _ _ _ _ _ _ _ _
   | exact ih2 _ _ _ _ _ _ _ _ _ _ _ _ _ _ _ _ _
   | exact ih3 _ _ _ _ _ _ _ _ _
   | exact ih4 _ _ _ _ _ _ _
   | exact ih5 _ _ _ _ _
   | exact ih6 _ _ _ _ _
   | exact ih7 _ _ _ _ _ _
   | exact impl_CountSpokes.mono _ _
   | exact impl_IsSpoke.mono _ _ _
   | exact impl_LeftInPeriod.mono _ _
   | exact impl_PeriodOfRules.mono _ _
   | exact impl_RankOfSpoke.mono _ _ _
   | exact impl_SpokeNear.mono _ _ _
   | exact impl_SpokeOfRank.mono _ _ _
   | exact impl_SpokesOf.mono _ _
   | exact impl_StepsOf.mono _ _
   | exact laws_gSame.mono _ _ _
   | exact laws_gSum.mono _ _
   | exact spec_CountSpokes.mono _ _
   | exact spec_IsSpoke.mono _ _ _
   | exact spec_RankOfSpoke.mono _ _ _
   | exact spec_SpokeNear.mono _ _ _
   | exact spec_SpokeOfRank.mono _ _ _
   | exact spec_SpokesOf.mono _ _
   | exact spec_StepsOf.mono _ _
   | exact LeO.none _
   | refine LeO.ite ?_ ?_
   | refine LeO.bind ?_ (fun _ => ?_)
  ·intro y0 y1 y2 y3 y4 y5 y6
   unfold laws_FnWheelsTurnOfAll.j4
   repeat' first
   | (with_reducible exact ih0 _ _ _ _ _ _ _ _ _ _ _ _ _ _)
   | (with_reducible exact ih1 _ _ _ _ _ _ _ _ _ _ _ _ _ _ _)
   | (with_reducible exact ih2 _ _ _ _ _ _ _ _ _ _ _ _ _ _ _ _ _)
   | (with_reducible exact ih3 _ _ _ _ _ _ _ _ _)
   | (with_reducible exact ih4 _ _ _ _ _ _ _)
   | (with_reducible exact ih5 _ _ _ _ _)
   | (with_reducible exact ih6 _ _ _ _ _)
   | (with_reducible exact ih7 _ _ _ _ _ _)
   | (with_reducible exact impl_CountSpokes.mono _ _)
   | (with_reducible exact impl_IsSpoke.mono _ _ _)
   | (with_reducible exact impl_LeftInPeriod.mono _ _)
   | (with_reducible exact impl_PeriodOfRules.mono _ _)
   | (with_reducible exact impl_RankOfSpoke.mono _ _ _)
   | (with_reducible exact impl_SpokeNear.mono _ _ _)
   | (with_reducible exact impl_SpokeOfRank.mono _ _ _)
   | (with_reducible exact impl_SpokesOf.mono _ _)
   | (with_reducible exact impl_StepsOf.mono _ _)
   | (with_reducible exact laws_gSame.mono _ _ _)
   | (with_reducible exact laws_gSum.mono _ _)
   | (with_reducible exact spec_CountSpokes.mono _ _)
   | (with_reducible exact spec_IsSpoke.mono _ _ _)
   | (with_reducible exact spec_RankOfSpoke.mono _ _ _)
   | (with_reducible exact spec_SpokeNear.mono _ _ _)
   | (with_reducible exact spec_SpokeOfRank.mono _ _ _)
   | (with_reducible exact spec_SpokesOf.mono _ _)
   | (with_reducible exact spec_StepsOf.mono _ _)
   | (with_reducible exact LeO.refl _)
   | (with_reducible exact LeO.none _)
   | (with_reducible refine LeO.ite ?_ ?_)
   | (with_reducible refine LeO.bind ?_ (fun _ => ?_))
   | exact ih0 _ _ _ _ _ _ _ _ _ _ _ _ _ _
   | exact ih1 _ _ _ _ _ _ _ _ _ _ _ _ _ _ _
   | exact ih2 _ _ _ _ _ _ _ _ _ _ _ _ _ _ _ _ _
   | exact ih3 _ _ _ _ _ _ _ _ _
   | exact ih4 _ _ _ _ _ _ _
   | exact ih5 _ _ _ _ _
   | exact ih6 _ _ _ _ _
   | exact ih7 _ _ _ _ _ _
   | exact impl_CountSpokes.mono _ _
   | exact impl_IsSpoke.mono _ _ _
   | exact impl_LeftInPeriod.mono _ _
   | exact impl_PeriodOfRules.mono _ _
   | exact impl_RankOfSpoke.mono _ _ _
   | exact impl_SpokeNear.mono _ _ _
   | exact impl_SpokeOfRank.mono _ _ _
   | exact impl_SpokesOf.mono _ _
   | exact impl_StepsOf.mono _ _
   | exact laws_gSame.mono _ _ _
   | exact laws_gSum.mono _ _
   | exact spec_CountSpokes.mono _ _
   | exact spec_IsSpoke.mono _ _ _
   | exact spec_RankOfSpoke.mono _ _ _
   | exact spec_SpokeNear.mono _ _ _
   | exact spec_SpokeOfRank.mono _ _ _
   | exact spec_SpokesOf.mono _ _
   | exact spec_StepsOf.mono _ _
   | exact LeO.none _
   | refine LeO.ite ?_ ?_
   | refine LeO.bind ?_ (fun _ => ?_)
  ·intro y0 y1 y2 y3 y4
   unfold laws_FnWheelsTurnOfAll.j5
   repeat' first
   | (with_reducible exact ih0 _ _ _ _ _ _ _ _ _ _ _ _ _ _)
   | (with_reducible exact ih1 _ _ _ _ _ _ _ _ _ _ _ _ _ _ _)
   | (with_reducible exact ih2 _ _ _ _ _ _ _ _ _ _ _ _ _ _ _ _ _)
   | (with_reducible exact ih3 _ _ _ _ _ _ _ _ _)
   | (with_reducible exact ih4 _ _ _ _ _ _ _)
   | (with_reducible exact ih5 _ _ _ _ _)
   | (with_reducible exact ih6 _ _ _ _ _)
   | (with_reducible exact ih7 _ _ _ _ _ _)
   | (with_reducible exact impl_CountSpokes.mono _ _)
   | (with_reducible exact impl_IsSpoke.mono _ _ _)
   | (with_reducible exact impl_LeftInPeriod.mono _ _)
   | (with_reducible exact impl_PeriodOfRules.mono _ _)
   | (with_reducible exact impl_RankOfSpoke.mono _ _ _)
   | (with_reducible exact impl_SpokeNear.mono _ _ _)
   | (with_reducible exact impl_SpokeOfRank.mono _ _ _)
   | (with_reducible exact impl_SpokesOf.mono _ _)
   | (with_reducible exact impl_StepsOf.mono _ _)
   | (with_reducible exact laws_gSame.mono _ _ _)
   | (with_reducible exact laws_gSum.mono _ _)
   | (with_reducible exact spec_CountSpokes.mono _ _)
   | (with_reducible exact spec_IsSpoke.mono _ _ _)
   | (with_reducible exact spec_RankOfSpoke.mono _ _ _)
   | (with_reducible exact spec_SpokeNear.mono _ _ _)
   | (with_reducible exact spec_SpokeOfRank.mono _ _ _)
   | (with_reducible exact spec_SpokesOf.mono _ _)
   | (with_reducible exact spec_StepsOf.mono _ _)
   | (with_reducible exact LeO.refl _)
   | (with_reducible exact LeO.none _)
   | (with_reducible refine LeO.ite ?_ ?_)
   | (with_reducible refine LeO.bind ?_ (fun _ => ?_))
   | exact ih0 _ _ _ _ _ _ _ _ _ _ _ _ _ _
   | exact ih1 _ _ _ _ _ _ _ _ _ _ _ _ _ _ _
   | exact ih2 _ _ _ _ _ _ _ _ _ _ _ _ _ _ _ _ _
   | exact ih3 _ _ _ _ _ _ _ _ _
   | exact ih4 _ _ _ _ _ _ _
   | exact ih5 _ _ _ _ _
   | exact ih6 _ _ _ _ _
   | exact ih7 _ _ _ _ _ _
   | exact impl_CountSpokes.mono _ _
   | exact impl_IsSpoke.mono _ _ _
   | exact impl_LeftInPeriod.mono _ _
   | exact impl_PeriodOfRules.mono _ _
   | exact impl_RankOfSpoke.mono _ _ _
   | exact impl_SpokeNear.mono _ _ _
   | exact impl_SpokeOfRank.mono _ _ _
   | exact impl_SpokesOf.mono _ _
   | exact impl_StepsOf.mono _ _
   | exact laws_gSame.mono _ _ _
   | exact laws_gSum.mono _ _
   | exact spec_CountSpokes.mono _ _
   | exact spec_IsSpoke.mono _ _ _
   | exact spec_RankOfSpoke.mono _ _ _
   | exact spec_SpokeNear.mono _ _ _
   | exact spec_SpokeOfRank.mono _ _ _
   | exact spec_SpokesOf.mono _ _
   | exact spec_StepsOf.mono _ _
   | exact LeO.none _
   | refine LeO.ite ?_ ?_
   | refine LeO.bind ?_ (fun _ => ?_)
  ·intro y0 y1 y2 y3 y4
   unfold laws_FnWheelsTurnOfAll.j6
   repeat' first
   | (with_reducible exact ih0 _ _ _ _ _ _ _ _ _ _ _ _ _ _)
   | (with_reducible exact ih1 _ _ _ _ _ _ _ _ _ _ _ _ _ _ _)
   | (with_reducible exact ih2 _ _ _ _ _ _ _ _ _ _ _ _ _ _ _ _ _)
   | (with_reducible exact ih3 _ _ _ _ _ _ _ _ _)
   | (with_reducible exact ih4 _ _ _ _ _ _ _)
   | (with_reducible exact ih5 _ _ _ _ _)
   | (with_reducible exact ih6 _ _ _ _ _)
   | (with_reducible exact ih7 _ _ _ _ _ _)
   | (with_reducible exact impl_CountSpokes.mono _ _)
   | (with_reducible exact impl_IsSpoke.mono _ _ _)
   | (with_reducible exact impl_LeftInPeriod.mono _ _)
   | (with_reducible exact impl_PeriodOfRules.mono _ _)
   | (with_reducible exact impl_RankOfSpoke.mono _ _ _)
   | (with_reducible exact impl_SpokeNear.mono _ _ _)
   | (with_reducible exact impl_SpokeOfRank.mono _ _ _)
   | (with_reducible exact impl_SpokesOf.mono _ _)
   | (with_reducible exact impl_StepsOf.mono _ _)
   | (with_reducible exact laws_gSame.mono _ _ _)
   | (with_reducible exact laws_gSum.mono _ _)
   | (with_reducible exact spec_CountSpokes.mono _ _)
   | (with_reducible exact spec_IsSpoke.mono _ _ _)
   | (with_reducible exact spec_RankOfSpoke.mono _ _ _)
   | (with_reducible exact spec_SpokeNear.mono _ _ _)
   | (with_reducible exact spec_SpokeOfRank.mono _ _ _)
   | (with_reducible exact spec_SpokesOf.mono _ _)
   | (with_reducible exact spec_StepsOf.mono _ _)
   | (with_reducible exact LeO.refl _)
   | (with_reducible exact LeO.none _)
   | (with_reducible refine LeO.ite ?_ ?_)
   | (with_reducible refine LeO.bind ?_ (fun _ => ?_))
   | exact ih0 _ _ _ _ _ _ _ _ _ _ _ _ _ _
   | exact ih1 _ _ _ _ _ _ _ _ _ _ _ _ _ _ _
   | exact ih2 _ _ _ _ _ _ _ _ _ _ _ _ _ _ _ _ _
   | exact ih3 _ _ _ _ _ _ _ _ _
   | exact ih4 _ _ _ _ _ _ _
   | exact ih5 _ _ _ _ _
   | exact ih6 _ _ _ _ _
   | exact ih7 _ _ _ _ _ _
   | exact impl_CountSpokes.mono _ _
   | exact impl_IsSpoke.mono _ _ _
   | exact impl_LeftInPeriod.mono _ _
   | exact impl_PeriodOfRules.mono _ _
   | exact impl_RankOfSpoke.mono _ _ _
   | exact impl_SpokeNear.mono _ _ _
   | exact impl_SpokeOfRank.mono _ _ _
   | exact impl_SpokesOf.mono _ _
   | exact impl_StepsOf.mono _ _
   | exact laws_gSame.mono _ _ _
   | exact laws_gSum.mono _ _
   | exact spec_CountSpokes.mono _ _
   | exact spec_IsSpoke.mono _ _ _
   | exact spec_RankOfSpoke.mono _ _ _
   | exact spec_SpokeNear.mono _ _ _
   | exact spec_SpokeOfRank.mono _ _ _
   | exact spec_SpokesOf.mono _ _
   | exact spec_StepsOf.mono _ _
   | exact LeO.none _
   | refine LeO.ite ?_ ?_
   | refine LeO.bind ?_ (fun _ => ?_)
  ·intro y0 y1 y2 y3 y4 y5
   unfold laws_FnWheelsTurnOfAll.j7
   repeat' first
   | (with_reducible exact ih0 _ _ _ _ _ _ _ _ _ _ _ _ _ _)
   | (with_reducible exact ih1 _ _ _ _ _ _ _ _ _ _ _ _ _ _ _)
   | (with_reducible exact ih2 _ _ _ _ _ _ _ _ _ _ _ _ _ _ _ _ _)
   | (with_reducible exact ih3 _ _ _ _ _ _ _ _ _)
   | (with_reducible exact ih4 _ _ _ _ _ _ _)
   | (with_reducible exact ih5 _ _ _ _ _)
   | (with_reducible exact ih6 _ _ _ _ _)
   | (with_reducible exact ih7 _ _ _ _ _ _)
   | (with_reducible exact impl_CountSpokes.mono _ _)
   | (with_reducible exact impl_IsSpoke.mono _ _ _)
   | (with_reducible exact impl_LeftInPeriod.mono _ _)
   | (with_reducible exact impl_PeriodOfRules.mono _ _)
   | (with_reducible exact impl_RankOfSpoke.mono _ _ _)
   | (with_reducible exact impl_SpokeNear.mono _ _ _)
   | (with_reducible exact impl_SpokeOfRank.mono _ _ _)
   | (with_reducible exact impl_SpokesOf.mono _ _)
   | (with_reducible exact impl_StepsOf.mono _ _)
   | (with_reducible exact laws_gSame.mono _ _ _)
   | (with_reducible exact laws_gSum.mono _ _)
   | (with_reducible exact spec_CountSpokes.mono _ _)
   | (with_reducible exact spec_IsSpoke.mono _ _ _)
   | (with_reducible exact spec_RankOfSpoke.mono _ _ _)
   | (with_reducible exact spec_SpokeNear.mono _ _ _)
   | (with_reducible exact spec_SpokeOfRank.mono _ _ _)
   | (with_reducible exact spec_SpokesOf.mono _ _)
   | (with_reducible exact spec_StepsOf.mono _ _)
   | (with_reducible exact LeO.refl _)
   | (with_reducible exact LeO.none _)
   | (with_reducible refine LeO.ite ?_ ?_)
   | (with_reducible refine LeO.bind ?_ (fun _ => ?_))
   | exact ih0 _ _ _ _ _ _ _ _ _ _ _ _ _ _
   | exact ih1 _ _ _ _ _ _ _ _ _ _ _ _ _ _ _
   | exact ih2 _ _ _ _ _ _ _ _ _ _ _ _ _ _ _ _ _
   | exact ih3 _ _ _ _ _ _ _ _ _
   | exact ih4 _ _ _ _ _ _ _
   | exact ih5 _ _ _ _ _
   | exact ih6 _ _ _ _ _
   | exact ih7 _ _ _ _ _ _
   | exact impl_CountSpokes.mono _ _
   | exact impl_IsSpoke.mono _ _ _
   | exact impl_LeftInPeriod.mono _ _
   | exact impl_PeriodOfRules.mono _ _
   | exact impl_RankOfSpoke.mono _ _ _
   | exact impl_SpokeNear.mono _ _ _
   | exact impl_SpokeOfRank.mono _ _ _
   | exact impl_SpokesOf.mono _ _
   | exact impl_StepsOf.mono _ _
   | exact laws_gSame.mono _ _ _
   | exact laws_gSum.mono _ _
   | exact spec_CountSpokes.mono _ _
   | exact spec_IsSpoke.mono _ _ _
   | exact spec_RankOfSpoke.mono _ _ _
   | exact spec_SpokeNear.mono _ _ _
   | exact spec_SpokeOfRank.mono _ _ _
   | exact spec_SpokesOf.mono _ _
   | exact spec_StepsOf.mono _ _
   | exact LeO.none _
   | refine LeO.ite ?_ ?_
   | refine LeO.bind ?_ (fun _ => ?_)
theorem laws_FnWheelsTurnOfAll.mono : ∀ a0 a1 k, LeO (laws_FnWheelsTurnOfAll.f k a0 a1) (laws_FnWheelsTurnOfAll.f (k + 1) a0 a1) := by
 intro a0 a1 k
 obtain ⟨ih0, ih1, ih2, ih3, ih4, ih5, ih6, ih7⟩ := laws_FnWheelsTurnOfAll.mono_l k
 unfold laws_FnWheelsTurnOfAll.f
 repeat' first
   | (with_reducible exact ih0 _ _ _ _ _ _ _ _ _ _ _ _ _ _)
   | (with_reducible exact ih1 _ _ _ _ _ _ _ _ _ _ _ _ _ _ _)
   | (with_reducible exact ih2 _ _ _ _ _ _ _ _ _ _ _ _ _ _ _ _ _)
   | (with_reducible exact ih3 _ _ _ _ _ _ _ _ _)
   | (with_reducible exact ih4 _ _ _ _ _ _ _)
   | (with_reducible exact ih5 _ _ _ _ _)
   | (with_reducible exact ih6 _ _ _ _ _)
   | (with_reducible exact ih7 _ _ _ _ _ _)
   | (with_reducible exact impl_CountSpokes.mono _ _)
   | (with_reducible exact impl_IsSpoke.mono _ _ _)
   | (with_reducible exact impl_LeftInPeriod.mono _ _)
   | (with_reducible exact impl_PeriodOfRules.mono _ _)
   | (with_reducible exact impl_RankOfSpoke.mono _ _ _)
   | (with_reducible exact impl_SpokeNear.mono _ _ _)
   | (with_reducible exact impl_SpokeOfRank.mono _ _ _)
   | (with_reducible exact impl_SpokesOf.mono _ _)
   | (with_reducible exact impl_StepsOf.mono _ _)
   | (with_reducible exact laws_gSame.mono _ _ _)
   | (with_reducible exact laws_gSum.mono _ _)
   | (with_reducible exact spec_CountSpokes.mono _ _)
   | (with_reducible exact spec_IsSpoke.mono _ _ _)
   | (with_reducible exact spec_RankOfSpoke.mono _ _ _)
   | (with_reducible exact spec_SpokeNear.mono _ _ _)
   | (with_reducible exact spec_SpokeOfRank.mono _ _ _)
   | (with_reducible exact spec_SpokesOf.mono _ _)
   | (with_reducible exact spec_StepsOf.mono _ _)
   | (with_reducible exact LeO.refl _)
   | (with_reducible exact LeO.none _)
   | (with_reducible refine LeO.ite ?_ ?_)
   | (with_reducible refine LeO.bind ?_ (fun _ => ?_))
   | exact ih0 _ _ _ _ _ _ _ _ _ _ _ _ _ _
   | exact ih1 _ _ _ _ _ _ _ _ _ _ _ _ _ _ _
   | exact ih2 _ _ _ _ _ _ _ _ _ _ _ _ _ _ _ _ _
   | exact ih3 _ _ _ _ _ _ _ _ _
   | exact ih4 _ _ _ _ _ _ _
   | exact ih5 _ _ _ _ _
   | exact ih6 _ _ _ _ _
   | exact ih7 _ _ _ _ _ _
   | exact impl_CountSpokes.mono _ _
   | exact impl_IsSpoke.mono _ _ _
   | exact impl_LeftInPeriod.mono _ _
   | exact impl_PeriodOfRules.mono _ _
   | exact impl_RankOfSpoke.mono _ _ _
   | exact impl_SpokeNear.mono _ _ _
   | exact impl_SpokeOfRank.mono _ _ _
   | exact impl_SpokesOf.mono _ _
   | exact impl_StepsOf.mono _ _
   | exact laws_gSame.mono _ _ _
   | exact laws_gSum.mono _ _
   | exact spec_CountSpokes.mono _ _
   | exact spec_IsSpoke.mono _ _ _
   | exact spec_RankOfSpoke.mono _ _ _
   | exact spec_SpokeNear.mono _ _ _
   | exact spec_SpokeOfRank.mono _ _ _
   | exact spec_SpokesOf.mono _ _
   | exact spec_StepsOf.mono _ _
   | exact LeO.none _
   | refine LeO.ite ?_ ?_
   | refine LeO.bind ?_ (fun _ => ?_)
set_option maxHeartbeats 100000000 in
set_option maxRecDepth 100000 in
theorem laws_FnWheelsTurnOfAll.calls (k : Nat) (A0 : Option Addr) (c0 : Nat) (l0 : List (S45)) (a1 : Int) (r : Bool) (w : World) (hr0 : Kd.C k45 w A0 l0.length l0) (hc0 : l0.length ≤ c0) (h : laws_FnWheelsTurnOfAll.f k l0 a1 = some r) :
  Calls Try.prog 3 #[.slice A0 l0.length c0, .int .i64 a1] w fun e w' => e = .returned (.bool r) ∧ Below w.heap.size w w' := by
 have HR0 := Aside0.mk hr0
 have HC0 := Aside0.mk hc0
 clear hr0 hc0
 have HB := Aside0.mk (Below.refl w.heap.size w)
 have H : (if (l0.length : Int) > 10000 then (some true) else ((impl_SpokeOfRank.f k l0 a1).bind fun bt267 => ((spec_SpokeOfRank.f k l0 a1).bind fun bt269 => ((impl_RankOfSpoke.f k l0 a1).bind fun bt271 => ((spec_RankOfSpoke.f k l0 a1).bind fun bt273 => ((impl_IsSpoke.f k l0 a1).bind fun bt275 => ((spec_IsSpoke.f k l0 a1).bind fun bt277 => ((impl_SpokeNear.f k l0 a1).bind fun bt279 => ((spec_SpokeNear.f k l0 a1).bind fun bt281 => ((impl_SpokesOf.f k l0).bind fun bt283 => ((spec_SpokesOf.f k l0).bind fun bt287 => ((impl_StepsOf.f k l0).bind fun bt291 => ((spec_StepsOf.f k l0).bind fun bt295 => ((impl_CountSpokes.f k l0).bind fun bt299 => ((spec_CountSpokes.f k l0).bind fun bt301 => (if (bt267.2 != bt269.2) = true then (none) else (if bt267.1 = bt269.1 then (if (bt271.2 != bt273.2) = true then (none) else (if bt271.1 = bt273.1 then (if (bt275.2 != bt277.2) = true then (none) else (if (bt275.1 != bt277.1) = true then (none) else (if (bt279.2 != bt281.2) = true then (none) else (if bt279.1 = bt281.1 then (if (bt283.2 != bt287.2) = true then (none) else ((laws_gSame.f k bt283.1 bt287.1).bind fun t303 => (if t303 = true then (if (bt291.2 != bt295.2) = true then (none) else ((laws_gSame.f k bt291.1 bt295.1).bind fun t304 => (if t304 = true then (if (bt299.2 != bt301.2) = true then (none) else (if bt299.1 = bt301.1 then (if (bt291.2 != bt283.2) = true then (none) else (if (bt299.2 != bt283.2) = true then (none) else (if bt275.2 = true then (if bt275.1 = true then (if (bt271.2 != (decide (a1 > 0))) = true then (none) else (if bt283.2 = true then (laws_FnWheelsTurnOfAll.j0 k l0 a1 bt267.1 bt267.2 bt271.1 bt271.2 bt275.1 bt279.1 bt279.2 bt283.1 bt283.2 bt291.1 bt299.1 (bt279.2 != bt275.2)) else (none))) else (if (bt271.2 != false) = true then (none) else (if bt283.2 = true then (laws_FnWheelsTurnOfAll.j0 k l0 a1 bt267.1 bt267.2 bt271.1 bt271.2 bt275.1 bt279.1 bt279.2 bt283.1 bt283.2 bt291.1 bt299.1 (bt279.2 != bt275.2)) else (none)))) else (if (bt271.2 != false) = true then (none) else (laws_FnWheelsTurnOfAll.j0 k l0 a1 bt267.1 bt267.2 bt271.1 bt271.2 bt275.1 bt279.1 bt279.2 bt283.1 bt283.2 bt291.1 bt299.1 (bt279.2 != bt275.2)))))) else (none))) else (none)))) else (none)))) else (none))))) else (none))) else (none)))))))))))))))))) = some r := h
 clear h
 by_cases c3 : (l0.length : Int) > 10000
 ·as_aux_lemma =>
  rw [if_pos c3] at H
  have c3b0 : decide (10000 < (l0.length : Int)) = true := decide_eq_true c3
  have c3b1 : decide (10000 < l0.length) = true := decide_eq_true (by omega)
  clear c3
  obtain rfl := Option.some.inj H
  as_aux_lemma =>
  go_enter Try.func3, Try.ntmps3
  as_aux_lemma =>
  go_wp2
  repeat (go_quiet (fail); try go_wp2)
  go_ret
  exact ⟨by first | rfl | (simp [errW_none, errW_some] <;> rfl) | (simp [*, errW_none, errW_some] <;> rfl), by repeat (first | (with_reducible first | exact HB.out | apply below_alloc | apply pw_below_drewN | apply below_drew1) | exact HB.out)⟩
 ·as_aux_lemma =>
  rw [if_neg c3] at H
  have c3b0 : decide (10000 < (l0.length : Int)) = false := decide_eq_false c3
  have c3b1 : decide (10000 < l0.length) = false := decide_eq_false (by omega)
  clear c3
  replace H := Option.bind_eq_some_iff.mp H
  obtain ⟨⟨t267, t268⟩, A40, H⟩ := H
  replace H : ((spec_SpokeOfRank.f k l0 a1).bind fun bt269 => ((impl_RankOfSpoke.f k l0 a1).bind fun bt271 => ((spec_RankOfSpoke.f k l0 a1).bind fun bt273 => ((impl_IsSpoke.f k l0 a1).bind fun bt275 => ((spec_IsSpoke.f k l0 a1).bind fun bt277 => ((impl_SpokeNear.f k l0 a1).bind fun bt279 => ((spec_SpokeNear.f k l0 a1).bind fun bt281 => ((impl_SpokesOf.f k l0).bind fun bt283 => ((spec_SpokesOf.f k l0).bind fun bt287 => ((impl_StepsOf.f k l0).bind fun bt291 => ((spec_StepsOf.f k l0).bind fun bt295 => ((impl_CountSpokes.f k l0).bind fun bt299 => ((spec_CountSpokes.f k l0).bind fun bt301 => (if (t268 != bt269.2) = true then (none) else (if t267 = bt269.1 then (if (bt271.2 != bt273.2) = true then (none) else (if bt271.1 = bt273.1 then (if (bt275.2 != bt277.2) = true then (none) else (if (bt275.1 != bt277.1) = true then (none) else (if (bt279.2 != bt281.2) = true then (none) else (if bt279.1 = bt281.1 then (if (bt283.2 != bt287.2) = true then (none) else ((laws_gSame.f k bt283.1 bt287.1).bind fun t303 => (if t303 = true then (if (bt291.2 != bt295.2) = true then (none) else ((laws_gSame.f k bt291.1 bt295.1).bind fun t304 => (if t304 = true then (if (bt299.2 != bt301.2) = true then (none) else (if bt299.1 = bt301.1 then (if (bt291.2 != bt283.2) = true then (none) else (if (bt299.2 != bt283.2) = true then (none) else (if bt275.2 = true then (if bt275.1 = true then (if (bt271.2 != (decide (a1 > 0))) = true then (none) else (if bt283.2 = true then (laws_FnWheelsTurnOfAll.j0 k l0 a1 t267 t268 bt271.1 bt271.2 bt275.1 bt279.1 bt279.2 bt283.1 bt283.2 bt291.1 bt299.1 (bt279.2 != bt275.2)) else (none))) else (if (bt271.2 != false) = true then (none) else (if bt283.2 = true then (laws_FnWheelsTurnOfAll.j0 k l0 a1 t267 t268 bt271.1 bt271.2 bt275.1 bt279.1 bt279.2 bt283.1 bt283.2 bt291.1 bt299.1 (bt279.2 != bt275.2)) else (none)))) else (if (bt271.2 != false) = true then (none) else (laws_FnWheelsTurnOfAll.j0 k l0 a1 t267 t268 bt271.1 bt271.2 bt275.1 bt279.1 bt279.2 bt283.1 bt283.2 bt291.1 bt299.1 (bt279.2 != bt275.2)))))) else (none))) else (none)))) else (none)))) else (none))))) else (none))) else (none)))))))))))))))) = some r := H
  have A4 := Aside0.mk A40
  clear A40
  replace H := Option.bind_eq_some_iff.mp H
  obtain ⟨⟨t269, t270⟩, A50, H⟩ := H
  replace H : ((impl_RankOfSpoke.f k l0 a1).bind fun bt271 => ((spec_RankOfSpoke.f k l0 a1).bind fun bt273 => ((impl_IsSpoke.f k l0 a1).bind fun bt275 => ((spec_IsSpoke.f k l0 a1).bind fun bt277 => ((impl_SpokeNear.f k l0 a1).bind fun bt279 => ((spec_SpokeNear.f k l0 a1).bind fun bt281 => ((impl_SpokesOf.f k l0).bind fun bt283 => ((spec_SpokesOf.f k l0).bind fun bt287 => ((impl_StepsOf.f k l0).bind fun bt291 => ((spec_StepsOf.f k l0).bind fun bt295 => ((impl_CountSpokes.f k l0).bind fun bt299 => ((spec_CountSpokes.f k l0).bind fun bt301 => (if (t268 != t270) = true then (none) else (if t267 = t269 then (if (bt271.2 != bt273.2) = true then (none) else (if bt271.1 = bt273.1 then (if (bt275.2 != bt277.2) = true then (none) else (if (bt275.1 != bt277.1) = true then (none) else (if (bt279.2 != bt281.2) = true then (none) else (if bt279.1 = bt281.1 then (if (bt283.2 != bt287.2) = true then (none) else ((laws_gSame.f k bt283.1 bt287.1).bind fun t303 => (if t303 = true then (if (bt291.2 != bt295.2) = true then (none) else ((laws_gSame.f k bt291.1 bt295.1).bind fun t304 => (if t304 = true then (if (bt299.2 != bt301.2) = true then (none) else (if bt299.1 = bt301.1 then (if (bt291.2 != bt283.2) = true then (none) else (if (bt299.2 != bt283.2) = true then (none) else (if bt275.2 = true then (if bt275.1 = true then (if (bt271.2 != (decide (a1 > 0))) = true then (none) else (if bt283.2 = true then (laws_FnWheelsTurnOfAll.j0 k l0 a1 t267 t268 bt271.1 bt271.2 bt275.1 bt279.1 bt279.2 bt283.1 bt283.2 bt291.1 bt299.1 (bt279.2 != bt275.2)) else (none))) else (if (bt271.2 != false) = true then (none) else (if bt283.2 = true then (laws_FnWheelsTurnOfAll.j0 k l0 a1 t267 t268 bt271.1 bt271.2 bt275.1 bt279.1 bt279.2 bt283.1 bt283.2 bt291.1 bt299.1 (bt279.2 != bt275.2)) else (none)))) else (if (bt271.2 != false) = true then (none) else (laws_FnWheelsTurnOfAll.j0 k l0 a1 t267 t268 bt271.1 bt271.2 bt275.1 bt279.1 bt279.2 bt283.1 bt283.2 bt291.1 bt299.1 (bt279.2 != bt275.2)))))) else (none))) else (none)))) else (none)))) else (none))))) else (none))) else (none))))))))))))))) = some r := H
  have A5 := Aside0.mk A50
  clear A50
  replace H := Option.bind_eq_some_iff.mp H
  obtain ⟨⟨t271, t272⟩, A60, H⟩ := H
  replace H : ((spec_RankOfSpoke.f k l0 a1).bind fun bt273 => ((impl_IsSpoke.f k l0 a1).bind fun bt275 => ((spec_IsSpoke.f k l0 a1).bind fun bt277 => ((impl_SpokeNear.f k l0 a1).bind fun bt279 => ((spec_SpokeNear.f k l0 a1).bind fun bt281 => ((impl_SpokesOf.f k l0).bind fun bt283 => ((spec_SpokesOf.f k l0).bind fun bt287 => ((impl_StepsOf.f k l0).bind fun bt291 => ((spec_StepsOf.f k l0).bind fun bt295 => ((impl_CountSpokes.f k l0).bind fun bt299 => ((spec_CountSpokes.f k l0).bind fun bt301 => (if (t268 != t270) = true then (none) else (if t267 = t269 then (if (t272 != bt273.2) = true then (none) else (if t271 = bt273.1 then (if (bt275.2 != bt277.2) = true then (none) else (if (bt275.1 != bt277.1) = true then (none) else (if (bt279.2 != bt281.2) = true then (none) else (if bt279.1 = bt281.1 then (if (bt283.2 != bt287.2) = true then (none) else ((laws_gSame.f k bt283.1 bt287.1).bind fun t303 => (if t303 = true then (if (bt291.2 != bt295.2) = true then (none) else ((laws_gSame.f k bt291.1 bt295.1).bind fun t304 => (if t304 = true then (if (bt299.2 != bt301.2) = true then (none) else (if bt299.1 = bt301.1 then (if (bt291.2 != bt283.2) = true then (none) else (if (bt299.2 != bt283.2) = true then (none) else (if bt275.2 = true then (if bt275.1 = true then (if (t272 != (decide (a1 > 0))) = true then (none) else (if bt283.2 = true then (laws_FnWheelsTurnOfAll.j0 k l0 a1 t267 t268 t271 t272 bt275.1 bt279.1 bt279.2 bt283.1 bt283.2 bt291.1 bt299.1 (bt279.2 != bt275.2)) else (none))) else (if (t272 != false) = true then (none) else (if bt283.2 = true then (laws_FnWheelsTurnOfAll.j0 k l0 a1 t267 t268 t271 t272 bt275.1 bt279.1 bt279.2 bt283.1 bt283.2 bt291.1 bt299.1 (bt279.2 != bt275.2)) else (none)))) else (if (t272 != false) = true then (none) else (laws_FnWheelsTurnOfAll.j0 k l0 a1 t267 t268 t271 t272 bt275.1 bt279.1 bt279.2 bt283.1 bt283.2 bt291.1 bt299.1 (bt279.2 != bt275.2)))))) else (none))) else (none)))) else (none)))) else (none))))) else (none))) else (none)))))))))))))) = some r := H
  have A6 := Aside0.mk A60
  clear A60
  replace H := Option.bind_eq_some_iff.mp H
  obtain ⟨⟨t273, t274⟩, A70, H⟩ := H
  replace H : ((impl_IsSpoke.f k l0 a1).bind fun bt275 => ((spec_IsSpoke.f k l0 a1).bind fun bt277 => ((impl_SpokeNear.f k l0 a1).bind fun bt279 => ((spec_SpokeNear.f k l0 a1).bind fun bt281 => ((impl_SpokesOf.f k l0).bind fun bt283 => ((spec_SpokesOf.f k l0).bind fun bt287 => ((impl_StepsOf.f k l0).bind fun bt291 => ((spec_StepsOf.f k l0).bind fun bt295 => ((impl_CountSpokes.f k l0).bind fun bt299 => ((spec_CountSpokes.f k l0).bind fun bt301 => (if (t268 != t270) = true then (none) else (if t267 = t269 then (if (t272 != t274) = true then (none) else (if t271 = t273 then (if (bt275.2 != bt277.2) = true then (none) else (if (bt275.1 != bt277.1) = true then (none) else (if (bt279.2 != bt281.2) = true then (none) else (if bt279.1 = bt281.1 then (if (bt283.2 != bt287.2) = true then (none) else ((laws_gSame.f k bt283.1 bt287.1).bind fun t303 => (if t303 = true then (if (bt291.2 != bt295.2) = true then (none) else ((laws_gSame.f k bt291.1 bt295.1).bind fun t304 => (if t304 = true then (if (bt299.2 != bt301.2) = true then (none) else (if bt299.1 = bt301.1 then (if (bt291.2 != bt283.2) = true then (none) else (if (bt299.2 != bt283.2) = true then (none) else (if bt275.2 = true then (if bt275.1 = true then (if (t272 != (decide (a1 > 0))) = true then (none) else (if bt283.2 = true then (laws_FnWheelsTurnOfAll.j0 k l0 a1 t267 t268 t271 t272 bt275.1 bt279.1 bt279.2 bt283.1 bt283.2 bt291.1 bt299.1 (bt279.2 != bt275.2)) else (none))) else (if (t272 != false) = true then (none) else (if bt283.2 = true then (laws_FnWheelsTurnOfAll.j0 k l0 a1 t267 t268 t271 t272 bt275.1 bt279.1 bt279.2 bt283.1 bt283.2 bt291.1 bt299.1 (bt279.2 != bt275.2)) else (none)))) else (if (t272 != false) = true then (none) else (laws_FnWheelsTurnOfAll.j0 k l0 a1 t267 t268 t271 t272 bt275.1 bt279.1 bt279.2 bt283.1 bt283.2 bt291.1 bt299.1 (bt279.2 != bt275.2)))))) else (none))) else (none)))) else (none)))) else (none))))) else (none))) else (none))))))))))))) = some r := H
  have A7 := Aside0.mk A70
  clear A70
  replace H := Option.bind_eq_some_iff.mp H
  obtain ⟨⟨t275, t276⟩, A80, H⟩ := H
  replace H : ((spec_IsSpoke.f k l0 a1).bind fun bt277 => ((impl_SpokeNear.f k l0 a1).bind fun bt279 => ((spec_SpokeNear.f k l0 a1).bind fun bt281 => ((impl_SpokesOf.f k l0).bind fun bt283 => ((spec_SpokesOf.f k l0).bind fun bt287 => ((impl_StepsOf.f k l0).bind fun bt291 => ((spec_StepsOf.f k l0).bind fun bt295 => ((impl_CountSpokes.f k l0).bind fun bt299 => ((spec_CountSpokes.f k l0).bind fun bt301 => (if (t268 != t270) = true then (none) else (if t267 = t269 then (if (t272 != t274) = true then (none) else (if t271 = t273 then (if (t276 != bt277.2) = true then (none) else (if (t275 != bt277.1) = true then (none) else (if (bt279.2 != bt281.2) = true then (none) else (if bt279.1 = bt281.1 then (if (bt283.2 != bt287.2) = true then (none) else ((laws_gSame.f k bt283.1 bt287.1).bind fun t303 => (if t303 = true then (if (bt291.2 != bt295.2) = true then (none) else ((laws_gSame.f k bt291.1 bt295.1).bind fun t304 => (if t304 = true then (if (bt299.2 != bt301.2) = true then (none) else (if bt299.1 = bt301.1 then (if (bt291.2 != bt283.2) = true then (none) else (if (bt299.2 != bt283.2) = true then (none) else (if t276 = true then (if t275 = true then (if (t272 != (decide (a1 > 0))) = true then (none) else (if bt283.2 = true then (laws_FnWheelsTurnOfAll.j0 k l0 a1 t267 t268 t271 t272 t275 bt279.1 bt279.2 bt283.1 bt283.2 bt291.1 bt299.1 (bt279.2 != t276)) else (none))) else (if (t272 != false) = true then (none) else (if bt283.2 = true then (laws_FnWheelsTurnOfAll.j0 k l0 a1 t267 t268 t271 t272 t275 bt279.1 bt279.2 bt283.1 bt283.2 bt291.1 bt299.1 (bt279.2 != t276)) else (none)))) else (if (t272 != false) = true then (none) else (laws_FnWheelsTurnOfAll.j0 k l0 a1 t267 t268 t271 t272 t275 bt279.1 bt279.2 bt283.1 bt283.2 bt291.1 bt299.1 (bt279.2 != t276)))))) else (none))) else (none)))) else (none)))) else (none))))) else (none))) else (none)))))))))))) = some r := H
  have A8 := Aside0.mk A80
  clear A80
  replace H := Option.bind_eq_some_iff.mp H
  obtain ⟨⟨t277, t278⟩, A90, H⟩ := H
  replace H : ((impl_SpokeNear.f k l0 a1).bind fun bt279 => ((spec_SpokeNear.f k l0 a1).bind fun bt281 => ((impl_SpokesOf.f k l0).bind fun bt283 => ((spec_SpokesOf.f k l0).bind fun bt287 => ((impl_StepsOf.f k l0).bind fun bt291 => ((spec_StepsOf.f k l0).bind fun bt295 => ((impl_CountSpokes.f k l0).bind fun bt299 => ((spec_CountSpokes.f k l0).bind fun bt301 => (if (t268 != t270) = true then (none) else (if t267 = t269 then (if (t272 != t274) = true then (none) else (if t271 = t273 then (if (t276 != t278) = true then (none) else (if (t275 != t277) = true then (none) else (if (bt279.2 != bt281.2) = true then (none) else (if bt279.1 = bt281.1 then (if (bt283.2 != bt287.2) = true then (none) else ((laws_gSame.f k bt283.1 bt287.1).bind fun t303 => (if t303 = true then (if (bt291.2 != bt295.2) = true then (none) else ((laws_gSame.f k bt291.1 bt295.1).bind fun t304 => (if t304 = true then (if (bt299.2 != bt301.2) = true then (none) else (if bt299.1 = bt301.1 then (if (bt291.2 != bt283.2) = true then (none) else (if (bt299.2 != bt283.2) = true then (none) else (if t276 = true then (if t275 = true then (if (t272 != (decide (a1 > 0))) = true then (none) else (if bt283.2 = true then (laws_FnWheelsTurnOfAll.j0 k l0 a1 t267 t268 t271 t272 t275 bt279.1 bt279.2 bt283.1 bt283.2 bt291.1 bt299.1 (bt279.2 != t276)) else (none))) else (if (t272 != false) = true then (none) else (if bt283.2 = true then (laws_FnWheelsTurnOfAll.j0 k l0 a1 t267 t268 t271 t272 t275 bt279.1 bt279.2 bt283.1 bt283.2 bt291.1 bt299.1 (bt279.2 != t276)) else (none)))) else (if (t272 != false) = true then (none) else (laws_FnWheelsTurnOfAll.j0 k l0 a1 t267 t268 t271 t272 t275 bt279.1 bt279.2 bt283.1 bt283.2 bt291.1 bt299.1 (bt279.2 != t276)))))) else (none))) else (none)))) else (none)))) else (none))))) else (none))) else (none))))))))))) = some r := H
  have A9 := Aside0.mk A90
  clear A90
  replace H := Option.bind_eq_some_iff.mp H
  obtain ⟨⟨t279, t280⟩, A100, H⟩ := H
  replace H : ((spec_SpokeNear.f k l0 a1).bind fun bt281 => ((impl_SpokesOf.f k l0).bind fun bt283 => ((spec_SpokesOf.f k l0).bind fun bt287 => ((impl_StepsOf.f k l0).bind fun bt291 => ((spec_StepsOf.f k l0).bind fun bt295 => ((impl_CountSpokes.f k l0).bind fun bt299 => ((spec_CountSpokes.f k l0).bind fun bt301 => (if (t268 != t270) = true then (none) else (if t267 = t269 then (if (t272 != t274) = true then (none) else (if t271 = t273 then (if (t276 != t278) = true then (none) else (if (t275 != t277) = true then (none) else (if (t280 != bt281.2) = true then (none) else (if t279 = bt281.1 then (if (bt283.2 != bt287.2) = true then (none) else ((laws_gSame.f k bt283.1 bt287.1).bind fun t303 => (if t303 = true then (if (bt291.2 != bt295.2) = true then (none) else ((laws_gSame.f k bt291.1 bt295.1).bind fun t304 => (if t304 = true then (if (bt299.2 != bt301.2) = true then (none) else (if bt299.1 = bt301.1 then (if (bt291.2 != bt283.2) = true then (none) else (if (bt299.2 != bt283.2) = true then (none) else (if t276 = true then (if t275 = true then (if (t272 != (decide (a1 > 0))) = true then (none) else (if bt283.2 = true then (laws_FnWheelsTurnOfAll.j0 k l0 a1 t267 t268 t271 t272 t275 t279 t280 bt283.1 bt283.2 bt291.1 bt299.1 (t280 != t276)) else (none))) else (if (t272 != false) = true then (none) else (if bt283.2 = true then (laws_FnWheelsTurnOfAll.j0 k l0 a1 t267 t268 t271 t272 t275 t279 t280 bt283.1 bt283.2 bt291.1 bt299.1 (t280 != t276)) else (none)))) else (if (t272 != false) = true then (none) else (laws_FnWheelsTurnOfAll.j0 k l0 a1 t267 t268 t271 t272 t275 t279 t280 bt283.1 bt283.2 bt291.1 bt299.1 (t280 != t276)))))) else (none))) else (none)))) else (none)))) else (none))))) else (none))) else (none)))))))))) = some r := H
  have A10 := Aside0.mk A100
  clear A100
  replace H := Option.bind_eq_some_iff.mp H
  obtain ⟨⟨t281, t282⟩, A110, H⟩ := H
  replace H : ((impl_SpokesOf.f k l0).bind fun bt283 => ((spec_SpokesOf.f k l0).bind fun bt287 => ((impl_StepsOf.f k l0).bind fun bt291 => ((spec_StepsOf.f k l0).bind fun bt295 => ((impl_CountSpokes.f k l0).bind fun bt299 => ((spec_CountSpokes.f k l0).bind fun bt301 => (if (t268 != t270) = true then (none) else (if t267 = t269 then (if (t272 != t274) = true then (none) else (if t271 = t273 then (if (t276 != t278) = true then (none) else (if (t275 != t277) = true then (none) else (if (t280 != t282) = true then (none) else (if t279 = t281 then (if (bt283.2 != bt287.2) = true then (none) else ((laws_gSame.f k bt283.1 bt287.1).bind fun t303 => (if t303 = true then (if (bt291.2 != bt295.2) = true then (none) else ((laws_gSame.f k bt291.1 bt295.1).bind fun t304 => (if t304 = true then (if (bt299.2 != bt301.2) = true then (none) else (if bt299.1 = bt301.1 then (if (bt291.2 != bt283.2) = true then (none) else (if (bt299.2 != bt283.2) = true then (none) else (if t276 = true then (if t275 = true then (if (t272 != (decide (a1 > 0))) = true then (none) else (if bt283.2 = true then (laws_FnWheelsTurnOfAll.j0 k l0 a1 t267 t268 t271 t272 t275 t279 t280 bt283.1 bt283.2 bt291.1 bt299.1 (t280 != t276)) else (none))) else (if (t272 != false) = true then (none) else (if bt283.2 = true then (laws_FnWheelsTurnOfAll.j0 k l0 a1 t267 t268 t271 t272 t275 t279 t280 bt283.1 bt283.2 bt291.1 bt299.1 (t280 != t276)) else (none)))) else (if (t272 != false) = true then (none) else (laws_FnWheelsTurnOfAll.j0 k l0 a1 t267 t268 t271 t272 t275 t279 t280 bt283.1 bt283.2 bt291.1 bt299.1 (t280 != t276)))))) else (none))) else (none)))) else (none)))) else (none))))) else (none))) else (none))))))))) = some r := H
  have A11 := Aside0.mk A110
  clear A110
  replace H := Option.bind_eq_some_iff.mp H
  obtain ⟨⟨t283, t284⟩, A120, H⟩ := H
  replace H : ((spec_SpokesOf.f k l0).bind fun bt287 => ((impl_StepsOf.f k l0).bind fun bt291 => ((spec_StepsOf.f k l0).bind fun bt295 => ((impl_CountSpokes.f k l0).bind fun bt299 => ((spec_CountSpokes.f k l0).bind fun bt301 => (if (t268 != t270) = true then (none) else (if t267 = t269 then (if (t272 != t274) = true then (none) else (if t271 = t273 then (if (t276 != t278) = true then (none) else (if (t275 != t277) = true then (none) else (if (t280 != t282) = true then (none) else (if t279 = t281 then (if (t284 != bt287.2) = true then (none) else ((laws_gSame.f k t283 bt287.1).bind fun t303 => (if t303 = true then (if (bt291.2 != bt295.2) = true then (none) else ((laws_gSame.f k bt291.1 bt295.1).bind fun t304 => (if t304 = true then (if (bt299.2 != bt301.2) = true then (none) else (if bt299.1 = bt301.1 then (if (bt291.2 != t284) = true then (none) else (if (bt299.2 != t284) = true then (none) else (if t276 = true then (if t275 = true then (if (t272 != (decide (a1 > 0))) = true then (none) else (if t284 = true then (laws_FnWheelsTurnOfAll.j0 k l0 a1 t267 t268 t271 t272 t275 t279 t280 t283 t284 bt291.1 bt299.1 (t280 != t276)) else (none))) else (if (t272 != false) = true then (none) else (if t284 = true then (laws_FnWheelsTurnOfAll.j0 k l0 a1 t267 t268 t271 t272 t275 t279 t280 t283 t284 bt291.1 bt299.1 (t280 != t276)) else (none)))) else (if (t272 != false) = true then (none) else (laws_FnWheelsTurnOfAll.j0 k l0 a1 t267 t268 t271 t272 t275 t279 t280 t283 t284 bt291.1 bt299.1 (t280 != t276)))))) else (none))) else (none)))) else (none)))) else (none))))) else (none))) else (none)))))))) = some r := H
  have A12 := Aside0.mk A120
  clear A120
  replace H := Option.bind_eq_some_iff.mp H
  obtain ⟨⟨t287, t288⟩, A130, H⟩ := H
  replace H : ((impl_StepsOf.f k l0).bind fun bt291 => ((spec_StepsOf.f k l0).bind fun bt295 => ((impl_CountSpokes.f k l0).bind fun bt299 => ((spec_CountSpokes.f k l0).bind fun bt301 => (if (t268 != t270) = true then (none) else (if t267 = t269 then (if (t272 != t274) = true then (none) else (if t271 = t273 then (if (t276 != t278) = true then (none) else (if (t275 != t277) = true then (none) else (if (t280 != t282) = true then (none) else (if t279 = t281 then (if (t284 != t288) = true then (none) else ((laws_gSame.f k t283 t287).bind fun t303 => (if t303 = true then (if (bt291.2 != bt295.2) = true then (none) else ((laws_gSame.f k bt291.1 bt295.1).bind fun t304 => (if t304 = true then (if (bt299.2 != bt301.2) = true then (none) else (if bt299.1 = bt301.1 then (if (bt291.2 != t284) = true then (none) else (if (bt299.2 != t284) = true then (none) else (if t276 = true then (if t275 = true then (if (t272 != (decide (a1 > 0))) = true then (none) else (if t284 = true then (laws_FnWheelsTurnOfAll.j0 k l0 a1 t267 t268 t271 t272 t275 t279 t280 t283 t284 bt291.1 bt299.1 (t280 != t276)) else (none))) else (if (t272 != false) = true then (none) else (if t284 = true then (laws_FnWheelsTurnOfAll.j0 k l0 a1 t267 t268 t271 t272 t275 t279 t280 t283 t284 bt291.1 bt299.1 (t280 != t276)) else (none)))) else (if (t272 != false) = true then (none) else (laws_FnWheelsTurnOfAll.j0 k l0 a1 t267 t268 t271 t272 t275 t279 t280 t283 t284 bt291.1 bt299.1 (t280 != t276)))))) else (none))) else (none)))) else (none)))) else (none))))) else (none))) else (none))))))) = some r := H
  have A13 := Aside0.mk A130
  clear A130
  replace H := Option.bind_eq_some_iff.mp H
  obtain ⟨⟨t291, t292⟩, A140, H⟩ := H
  replace H : ((spec_StepsOf.f k l0).bind fun bt295 => ((impl_CountSpokes.f k l0).bind fun bt299 => ((spec_CountSpokes.f k l0).bind fun bt301 => (if (t268 != t270) = true then (none) else (if t267 = t269 then (if (t272 != t274) = true then (none) else (if t271 = t273 then (if (t276 != t278) = true then (none) else (if (t275 != t277) = true then (none) else (if (t280 != t282) = true then (none) else (if t279 = t281 then (if (t284 != t288) = true then (none) else ((laws_gSame.f k t283 t287).bind fun t303 => (if t303 = true then (if (t292 != bt295.2) = true then (none) else ((laws_gSame.f k t291 bt295.1).bind fun t304 => (if t304 = true then (if (bt299.2 != bt301.2) = true then (none) else (if bt299.1 = bt301.1 then (if (t292 != t284) = true then (none) else (if (bt299.2 != t284) = true then (none) else (if t276 = true then (if t275 = true then (if (t272 != (decide (a1 > 0))) = true then (none) else (if t284 = true then (laws_FnWheelsTurnOfAll.j0 k l0 a1 t267 t268 t271 t272 t275 t279 t280 t283 t284 t291 bt299.1 (t280 != t276)) else (none))) else (if (t272 != false) = true then (none) else (if t284 = true then (laws_FnWheelsTurnOfAll.j0 k l0 a1 t267 t268 t271 t272 t275 t279 t280 t283 t284 t291 bt299.1 (t280 != t276)) else (none)))) else (if (t272 != false) = true then (none) else (laws_FnWheelsTurnOfAll.j0 k l0 a1 t267 t268 t271 t272 t275 t279 t280 t283 t284 t291 bt299.1 (t280 != t276)))))) else (none))) else (none)))) else (none)))) else (none))))) else (none))) else (none)))))) = some r := H
  have A14 := Aside0.mk A140
  clear A140
  replace H := Option.bind_eq_some_iff.mp H
  obtain ⟨⟨t295, t296⟩, A150, H⟩ := H
  replace H : ((impl_CountSpokes.f k l0).bind fun bt299 => ((spec_CountSpokes.f k l0).bind fun bt301 => (if (t268 != t270) = true then (none) else (if t267 = t269 then (if (t272 != t274) = true then (none) else (if t271 = t273 then (if (t276 != t278) = true then (none) else (if (t275 != t277) = true then (none) else (if (t280 != t282) = true then (none) else (if t279 = t281 then (if (t284 != t288) = true then (none) else ((laws_gSame.f k t283 t287).bind fun t303 => (if t303 = true then (if (t292 != t296) = true then (none) else ((laws_gSame.f k t291 t295).bind fun t304 => (if t304 = true then (if (bt299.2 != bt301.2) = true then (none) else (if bt299.1 = bt301.1 then (if (t292 != t284) = true then (none) else (if (bt299.2 != t284) = true then (none) else (if t276 = true then (if t275 = true then (if (t272 != (decide (a1 > 0))) = true then (none) else (if t284 = true then (laws_FnWheelsTurnOfAll.j0 k l0 a1 t267 t268 t271 t272 t275 t279 t280 t283 t284 t291 bt299.1 (t280 != t276)) else (none))) else (if (t272 != false) = true then (none) else (if t284 = true then (laws_FnWheelsTurnOfAll.j0 k l0 a1 t267 t268 t271 t272 t275 t279 t280 t283 t284 t291 bt299.1 (t280 != t276)) else (none)))) else (if (t272 != false) = true then (none) else (laws_FnWheelsTurnOfAll.j0 k l0 a1 t267 t268 t271 t272 t275 t279 t280 t283 t284 t291 bt299.1 (t280 != t276)))))) else (none))) else (none)))) else (none)))) else (none))))) else (none))) else (none))))) = some r := H
  have A15 := Aside0.mk A150
  clear A150
  replace H := Option.bind_eq_some_iff.mp H
  obtain ⟨⟨t299, t300⟩, A160, H⟩ := H
  replace H : ((spec_CountSpokes.f k l0).bind fun bt301 => (if (t268 != t270) = true then (none) else (if t267 = t269 then (if (t272 != t274) = true then (none) else (if t271 = t273 then (if (t276 != t278) = true then (none) else (if (t275 != t277) = true then (none) else (if (t280 != t282) = true then (none) else (if t279 = t281 then (if (t284 != t288) = true then (none) else ((laws_gSame.f k t283 t287).bind fun t303 => (if t303 = true then (if (t292 != t296) = true then (none) else ((laws_gSame.f k t291 t295).bind fun t304 => (if t304 = true then (if (t300 != bt301.2) = true then (none) else (if t299 = bt301.1 then (if (t292 != t284) = true then (none) else (if (t300 != t284) = true then (none) else (if t276 = true then (if t275 = true then (if (t272 != (decide (a1 > 0))) = true then (none) else (if t284 = true then (laws_FnWheelsTurnOfAll.j0 k l0 a1 t267 t268 t271 t272 t275 t279 t280 t283 t284 t291 t299 (t280 != t276)) else (none))) else (if (t272 != false) = true then (none) else (if t284 = true then (laws_FnWheelsTurnOfAll.j0 k l0 a1 t267 t268 t271 t272 t275 t279 t280 t283 t284 t291 t299 (t280 != t276)) else (none)))) else (if (t272 != false) = true then (none) else (laws_FnWheelsTurnOfAll.j0 k l0 a1 t267 t268 t271 t272 t275 t279 t280 t283 t284 t291 t299 (t280 != t276)))))) else (none))) else (none)))) else (none)))) else (none))))) else (none))) else (none)))) = some r := H
  have A16 := Aside0.mk A160
  clear A160
  replace H := Option.bind_eq_some_iff.mp H
  obtain ⟨⟨t301, t302⟩, A170, H⟩ := H
  replace H : (if (t268 != t270) = true then (none) else (if t267 = t269 then (if (t272 != t274) = true then (none) else (if t271 = t273 then (if (t276 != t278) = true then (none) else (if (t275 != t277) = true then (none) else (if (t280 != t282) = true then (none) else (if t279 = t281 then (if (t284 != t288) = true then (none) else ((laws_gSame.f k t283 t287).bind fun t303 => (if t303 = true then (if (t292 != t296) = true then (none) else ((laws_gSame.f k t291 t295).bind fun t304 => (if t304 = true then (if (t300 != t302) = true then (none) else (if t299 = t301 then (if (t292 != t284) = true then (none) else (if (t300 != t284) = true then (none) else (if t276 = true then (if t275 = true then (if (t272 != (decide (a1 > 0))) = true then (none) else (if t284 = true then (laws_FnWheelsTurnOfAll.j0 k l0 a1 t267 t268 t271 t272 t275 t279 t280 t283 t284 t291 t299 (t280 != t276)) else (none))) else (if (t272 != false) = true then (none) else (if t284 = true then (laws_FnWheelsTurnOfAll.j0 k l0 a1 t267 t268 t271 t272 t275 t279 t280 t283 t284 t291 t299 (t280 != t276)) else (none)))) else (if (t272 != false) = true then (none) else (laws_FnWheelsTurnOfAll.j0 k l0 a1 t267 t268 t271 t272 t275 t279 t280 t283 t284 t291 t299 (t280 != t276)))))) else (none))) else (none)))) else (none)))) else (none))))) else (none))) else (none))) = some r := H
  have A17 := Aside0.mk A170
  clear A170
  have HC18 := Aside0.mk H
  clear H
  as_aux_lemma =>
  go_enter Try.func3, Try.ntmps3
  as_aux_lemma =>
  go_upto_region 17 with (first | (go_at_call 7; (with_reducible refine (impl_SpokeOfRank.calls k _ _ l0 a1 t267 t268 _ ?side1 ?side2 A4.out).mono ?_); (case side1 => repeat (first | exact HR0.out | (with_reducible refine Kd.C_alloc ?_ _) | (with_reducible refine Kd.C_drewN ?_ _) | (with_reducible refine Kd.C_drew ?_))); (case side2 => exact HC0.out); rintro e w19 ⟨rfl, hb⟩; have n0_ := Aside0.mk (below_step (by repeat (first | (with_reducible first | exact HB.out | apply below_alloc | apply pw_below_drewN | apply below_drew1) | exact HB.out)) hb); clear HB; have HB := n0_; clear n0_; (try clear hb); (try clear hb2); (try clear hk); (try clear hi)))
  as_aux_lemma =>
  go_upto_region 17 with (first | (go_at_call 8; (with_reducible refine (spec_SpokeOfRank.calls k _ _ l0 a1 t269 t270 _ ?side1 ?side2 A5.out).mono ?_); (case side1 => repeat (first | exact (Kd.C_below HR0.out HB.out) | (with_reducible refine Kd.C_alloc ?_ _) | (with_reducible refine Kd.C_drewN ?_ _) | (with_reducible refine Kd.C_drew ?_))); (case side2 => exact HC0.out); rintro e w20 ⟨rfl, hb⟩; have n0_ := Aside0.mk (below_step (by repeat (first | (with_reducible first | exact HB.out | apply below_alloc | apply pw_below_drewN | apply below_drew1) | exact HB.out)) hb); clear HB; have HB := n0_; clear n0_; (try clear hb); (try clear hb2); (try clear hk); (try clear hi)))
  as_aux_lemma =>
  go_upto_region 17 with (first | (go_at_call 9; (with_reducible refine (impl_RankOfSpoke.calls k _ _ l0 a1 t271 t272 _ ?side1 ?side2 A6.out).mono ?_); (case side1 => repeat (first | exact (Kd.C_below HR0.out HB.out) | (with_reducible refine Kd.C_alloc ?_ _) | (with_reducible refine Kd.C_drewN ?_ _) | (with_reducible refine Kd.C_drew ?_))); (case side2 => exact HC0.out); rintro e w21 ⟨rfl, hb⟩; have n0_ := Aside0.mk (below_step (by repeat (first | (with_reducible first | exact HB.out | apply below_alloc | apply pw_below_drewN | apply below_drew1) | exact HB.out)) hb); clear HB; have HB := n0_; clear n0_; (try clear hb); (try clear hb2); (try clear hk); (try clear hi)))
  as_aux_lemma =>
  go_upto_region 17 with (first | (go_at_call 10; (with_reducible refine (spec_RankOfSpoke.calls k _ _ l0 a1 t273 t274 _ ?side1 ?side2 A7.out).mono ?_); (case side1 => repeat (first | exact (Kd.C_below HR0.out HB.out) | (with_reducible refine Kd.C_alloc ?_ _) | (with_reducible refine Kd.C_drewN ?_ _) | (with_reducible refine Kd.C_drew ?_))); (case side2 => exact HC0.out); rintro e w22 ⟨rfl, hb⟩; have n0_ := Aside0.mk (below_step (by repeat (first | (with_reducible first | exact HB.out | apply below_alloc | apply pw_below_drewN | apply below_drew1) | exact HB.out)) hb); clear HB; have HB := n0_; clear n0_; (try clear hb); (try clear hb2); (try clear hk); (try clear hi)))
  as_aux_lemma =>
  go_upto_region 17 with (first | (go_at_call 11; (with_reducible refine (impl_IsSpoke.calls k _ _ l0 a1 t275 t276 _ ?side1 ?side2 A8.out).mono ?_); (case side1 => repeat (first | exact (Kd.C_below HR0.out HB.out) | (with_reducible refine Kd.C_alloc ?_ _) | (with_reducible refine Kd.C_drewN ?_ _) | (with_reducible refine Kd.C_drew ?_))); (case side2 => exact HC0.out); rintro e w23 ⟨rfl, hb⟩; have n0_ := Aside0.mk (below_step (by repeat (first | (with_reducible first | exact HB.out | apply below_alloc | apply pw_below_drewN | apply below_drew1) | exact HB.out)) hb); clear HB; have HB := n0_; clear n0_; (try clear hb); (try clear hb2); (try clear hk); (try clear hi)))
  as_aux_lemma =>
  go_upto_region 17 with (first | (go_at_call 12; (with_reducible refine (spec_IsSpoke.calls k _ _ l0 a1 t277 t278 _ ?side1 ?side2 A9.out).mono ?_); (case side1 => repeat (first | exact (Kd.C_below HR0.out HB.out) | (with_reducible refine Kd.C_alloc ?_ _) | (with_reducible refine Kd.C_drewN ?_ _) | (with_reducible refine Kd.C_drew ?_))); (case side2 => exact HC0.out); rintro e w24 ⟨rfl, hb⟩; have n0_ := Aside0.mk (below_step (by repeat (first | (with_reducible first | exact HB.out | apply below_alloc | apply pw_below_drewN | apply below_drew1) | exact HB.out)) hb); clear HB; have HB := n0_; clear n0_; (try clear hb); (try clear hb2); (try clear hk); (try clear hi)))
  as_aux_lemma =>
  go_upto_region 17 with (first | (go_at_call 13; (with_reducible refine (impl_SpokeNear.calls k _ _ l0 a1 t279 t280 _ ?side1 ?side2 A10.out).mono ?_); (case side1 => repeat (first | exact (Kd.C_below HR0.out HB.out) | (with_reducible refine Kd.C_alloc ?_ _) | (with_reducible refine Kd.C_drewN ?_ _) | (with_reducible refine Kd.C_drew ?_))); (case side2 => exact HC0.out); rintro e w25 ⟨rfl, hb⟩; have n0_ := Aside0.mk (below_step (by repeat (first | (with_reducible first | exact HB.out | apply below_alloc | apply pw_below_drewN | apply below_drew1) | exact HB.out)) hb); clear HB; have HB := n0_; clear n0_; (try clear hb); (try clear hb2); (try clear hk); (try clear hi)))
  as_aux_lemma =>
  go_upto_region 17 with (first | (go_at_call 14; (with_reducible refine (spec_SpokeNear.calls k _ _ l0 a1 t281 t282 _ ?side1 ?side2 A11.out).mono ?_); (case side1 => repeat (first | exact (Kd.C_below HR0.out HB.out) | (with_reducible refine Kd.C_alloc ?_ _) | (with_reducible refine Kd.C_drewN ?_ _) | (with_reducible refine Kd.C_drew ?_))); (case side2 => exact HC0.out); rintro e w26 ⟨rfl, hb⟩; have n0_ := Aside0.mk (below_step (by repeat (first | (with_reducible first | exact HB.out | apply below_alloc | apply pw_below_drewN | apply below_drew1) | exact HB.out)) hb); clear HB; have HB := n0_; clear n0_; (try clear hb); (try clear hb2); (try clear hk); (try clear hi)))
  as_aux_lemma =>
  go_upto_region 17 with (first | (go_at_call 15; (with_reducible refine (impl_SpokesOf.calls k _ _ l0 t283 t284 _ ?side1 ?side2 A12.out).mono ?_); (case side1 => repeat (first | exact (Kd.C_below HR0.out HB.out) | (with_reducible refine Kd.C_alloc ?_ _) | (with_reducible refine Kd.C_drewN ?_ _) | (with_reducible refine Kd.C_drew ?_))); (case side2 => exact HC0.out); rintro e w27 ⟨v285, rfl, ho0, hb⟩; have n0_ := Aside0.mk (Kd.R_lower ho0 (below_size (by repeat (first | (with_reducible first | exact HB.out | apply below_alloc | apply pw_below_drewN | apply below_drew1) | exact HB.out)))); have n1_ := Aside0.mk (below_step (by repeat (first | (with_reducible first | exact HB.out | apply below_alloc | apply pw_below_drewN | apply below_drew1) | exact HB.out)) hb); clear HB; have HO286 := n0_; have HB := n1_; clear n0_ n1_; (try clear hb); (try clear hb2); (try clear hk); (try clear hi); (try clear ho0)))
  as_aux_lemma =>
  go_upto_region 17 with (first | (go_at_call 16; (with_reducible refine (spec_SpokesOf.calls k _ _ l0 t287 t288 _ ?side1 ?side2 A13.out).mono ?_); (case side1 => repeat (first | exact (Kd.C_below HR0.out HB.out) | (with_reducible refine Kd.C_alloc ?_ _) | (with_reducible refine Kd.C_drewN ?_ _) | (with_reducible refine Kd.C_drew ?_))); (case side2 => exact HC0.out); rintro e w28 ⟨v289, rfl, ho0, hb⟩; have n0_ := Aside0.mk (Kd.R_elder' (by (with_reducible repeat (first | apply Kd.R_alloc | apply Kd.R_drewN | apply Kd.R_drew)); exact HO286.out) (Kd.R_base ho0) hb); have n1_ := Aside0.mk (Kd.R_lower (Kd.R_new' ho0 (Kd.R_lt (by (with_reducible repeat (first | apply Kd.R_alloc | apply Kd.R_drewN | apply Kd.R_drew)); exact HO286.out))) (below_size (by repeat (first | (with_reducible first | exact HB.out | apply below_alloc | apply pw_below_drewN | apply below_drew1) | exact HB.out)))); have n2_ := Aside0.mk (below_step (by repeat (first | (with_reducible first | exact HB.out | apply below_alloc | apply pw_below_drewN | apply below_drew1) | exact HB.out)) hb); clear HO286; clear HB; have HO286 := n0_; have HO290 := n1_; have HB := n2_; clear n0_ n1_ n2_; (try clear hb); (try clear hb2); (try clear hk); (try clear hi); (try clear ho0)))
  as_aux_lemma =>
  go_upto_region 17 with (first | (go_at_call 17; (with_reducible refine (impl_StepsOf.calls k _ _ l0 t291 t292 _ ?side1 ?side2 A14.out).mono ?_); (case side1 => repeat (first | exact (Kd.C_below HR0.out HB.out) | (with_reducible refine Kd.C_alloc ?_ _) | (with_reducible refine Kd.C_drewN ?_ _) | (with_reducible refine Kd.C_drew ?_))); (case side2 => exact HC0.out); rintro e w29 ⟨v293, rfl, ho0, hb⟩; have n0_ := Aside0.mk (Kd.R_elder' (by (with_reducible repeat (first | apply Kd.R_alloc | apply Kd.R_drewN | apply Kd.R_drew)); exact HO286.out) (Kd.R_base ho0) hb); have n1_ := Aside0.mk (Kd.R_elder' (by (with_reducible repeat (first | apply Kd.R_alloc | apply Kd.R_drewN | apply Kd.R_drew)); exact HO290.out) (Kd.R_base ho0) hb); have n2_ := Aside0.mk (Kd.R_lower (Kd.R_new' (Kd.R_new' ho0 (Kd.R_lt (by (with_reducible repeat (first | apply Kd.R_alloc | apply Kd.R_drewN | apply Kd.R_drew)); exact HO286.out))) (Kd.R_lt (by (with_reducible repeat (first | apply Kd.R_alloc | apply Kd.R_drewN | apply Kd.R_drew)); exact HO290.out))) (below_size (by repeat (first | (with_reducible first | exact HB.out | apply below_alloc | apply pw_below_drewN | apply below_drew1) | exact HB.out)))); have n3_ := Aside0.mk (below_step (by repeat (first | (with_reducible first | exact HB.out | apply below_alloc | apply pw_below_drewN | apply below_drew1) | exact HB.out)) hb); clear HO286; clear HO290; clear HB; have HO286 := n0_; have HO290 := n1_; have HO294 := n2_; have HB := n3_; clear n0_ n1_ n2_ n3_; (try clear hb); (try clear hb2); (try clear hk); (try clear hi); (try clear ho0)))
  as_aux_lemma =>
  go_upto_region 17 with (first | (go_at_call 18; (with_reducible refine (spec_StepsOf.calls k _ _ l0 t295 t296 _ ?side1 ?side2 A15.out).mono ?_); (case side1 => repeat (first | exact (Kd.C_below HR0.out HB.out) | (with_reducible refine Kd.C_alloc ?_ _) | (with_reducible refine Kd.C_drewN ?_ _) | (with_reducible refine Kd.C_drew ?_))); (case side2 => exact HC0.out); rintro e w30 ⟨v297, rfl, ho0, hb⟩; have n0_ := Aside0.mk (Kd.R_elder' (by (with_reducible repeat (first | apply Kd.R_alloc | apply Kd.R_drewN | apply Kd.R_drew)); exact HO286.out) (Kd.R_base ho0) hb); have n1_ := Aside0.mk (Kd.R_elder' (by (with_reducible repeat (first | apply Kd.R_alloc | apply Kd.R_drewN | apply Kd.R_drew)); exact HO290.out) (Kd.R_base ho0) hb); have n2_ := Aside0.mk (Kd.R_elder' (by (with_reducible repeat (first | apply Kd.R_alloc | apply Kd.R_drewN | apply Kd.R_drew)); exact HO294.out) (Kd.R_base ho0) hb); have n3_ := Aside0.mk (Kd.R_lower (Kd.R_new' (Kd.R_new' (Kd.R_new' ho0 (Kd.R_lt (by (with_reducible repeat (first | apply Kd.R_alloc | apply Kd.R_drewN | apply Kd.R_drew)); exact HO286.out))) (Kd.R_lt (by (with_reducible repeat (first | apply Kd.R_alloc | apply Kd.R_drewN | apply Kd.R_drew)); exact HO290.out))) (Kd.R_lt (by (with_reducible repeat (first | apply Kd.R_alloc | apply Kd.R_drewN | apply Kd.R_drew)); exact HO294.out))) (below_size (by repeat (first | (with_reducible first | exact HB.out | apply below_alloc | apply pw_below_drewN | apply below_drew1) | exact HB.out)))); have n4_ := Aside0.mk (below_step (by repeat (first | (with_reducible first | exact HB.out | apply below_alloc | apply pw_below_drewN | apply below_drew1) | exact HB.out)) hb); clear HO286; clear HO290; clear HO294; clear HB; have HO286 := n0_; have HO290 := n1_; have HO294 := n2_; have HO298 := n3_; have HB := n4_; clear n0_ n1_ n2_ n3_ n4_; (try clear hb); (try clear hb2); (try clear hk); (try clear hi); (try clear ho0)))
  as_aux_lemma =>
  go_upto_region 17 with (first | (go_at_call 19; (with_reducible refine (impl_CountSpokes.calls k _ _ l0 t299 t300 _ ?side1 ?side2 A16.out).mono ?_); (case side1 => repeat (first | exact (Kd.C_below HR0.out HB.out) | (with_reducible refine Kd.C_alloc ?_ _) | (with_reducible refine Kd.C_drewN ?_ _) | (with_reducible refine Kd.C_drew ?_))); (case side2 => exact HC0.out); rintro e w31 ⟨rfl, hb⟩; have n0_ := Aside0.mk (Kd.R_below (by (with_reducible repeat (first | apply Kd.R_alloc | apply Kd.R_drewN | apply Kd.R_drew)); exact HO286.out) hb); have n1_ := Aside0.mk (Kd.R_below (by (with_reducible repeat (first | apply Kd.R_alloc | apply Kd.R_drewN | apply Kd.R_drew)); exact HO290.out) hb); have n2_ := Aside0.mk (Kd.R_below (by (with_reducible repeat (first | apply Kd.R_alloc | apply Kd.R_drewN | apply Kd.R_drew)); exact HO294.out) hb); have n3_ := Aside0.mk (Kd.R_below (by (with_reducible repeat (first | apply Kd.R_alloc | apply Kd.R_drewN | apply Kd.R_drew)); exact HO298.out) hb); have n4_ := Aside0.mk (below_step (by repeat (first | (with_reducible first | exact HB.out | apply below_alloc | apply pw_below_drewN | apply below_drew1) | exact HB.out)) hb); clear HO286; clear HO290; clear HO294; clear HO298; clear HB; have HO286 := n0_; have HO290 := n1_; have HO294 := n2_; have HO298 := n3_; have HB := n4_; clear n0_ n1_ n2_ n3_ n4_; (try clear hb); (try clear hb2); (try clear hk); (try clear hi)))
  as_aux_lemma =>
  go_upto_region 17 with (first | (go_at_call 20; (with_reducible refine (spec_CountSpokes.calls k _ _ l0 t301 t302 _ ?side1 ?side2 A17.out).mono ?_); (case side1 => repeat (first | exact (Kd.C_below HR0.out HB.out) | (with_reducible refine Kd.C_alloc ?_ _) | (with_reducible refine Kd.C_drewN ?_ _) | (with_reducible refine Kd.C_drew ?_))); (case side2 => exact HC0.out); rintro e w32 ⟨rfl, hb⟩; have n0_ := Aside0.mk (Kd.R_below (by (with_reducible repeat (first | apply Kd.R_alloc | apply Kd.R_drewN | apply Kd.R_drew)); exact HO286.out) hb); have n1_ := Aside0.mk (Kd.R_below (by (with_reducible repeat (first | apply Kd.R_alloc | apply Kd.R_drewN | apply Kd.R_drew)); exact HO290.out) hb); have n2_ := Aside0.mk (Kd.R_below (by (with_reducible repeat (first | apply Kd.R_alloc | apply Kd.R_drewN | apply Kd.R_drew)); exact HO294.out) hb); have n3_ := Aside0.mk (Kd.R_below (by (with_reducible repeat (first | apply Kd.R_alloc | apply Kd.R_drewN | apply Kd.R_drew)); exact HO298.out) hb); have n4_ := Aside0.mk (below_step (by repeat (first | (with_reducible first | exact HB.out | apply below_alloc | apply pw_below_drewN | apply below_drew1) | exact HB.out)) hb); clear HO286; clear HO290; clear HO294; clear HO298; clear HB; have HO286 := n0_; have HO290 := n1_; have HO294 := n2_; have HO298 := n3_; have HB := n4_; clear n0_ n1_ n2_ n3_ n4_; (try clear hb); (try clear hb2); (try clear hk); (try clear hi)))
  repeat (go_quiet (first | (go_at_call 7; (with_reducible refine (impl_SpokeOfRank.calls k _ _ l0 a1 t267 t268 _ ?side1 ?side2 A4.out).mono ?_); (case side1 => repeat (first | exact HR0.out | (with_reducible refine Kd.C_alloc ?_ _) | (with_reducible refine Kd.C_drewN ?_ _) | (with_reducible refine Kd.C_drew ?_))); (case side2 => exact HC0.out); rintro e w19 ⟨rfl, hb⟩; have n0_ := Aside0.mk (below_step (by repeat (first | (with_reducible first | exact HB.out | apply below_alloc | apply pw_below_drewN | apply below_drew1) | exact HB.out)) hb); clear HB; have HB := n0_; clear n0_; (try clear hb); (try clear hb2); (try clear hk); (try clear hi)) | (go_at_call 8; (with_reducible refine (spec_SpokeOfRank.calls k _ _ l0 a1 t269 t270 _ ?side1 ?side2 A5.out).mono ?_); (case side1 => repeat (first | exact (Kd.C_below HR0.out HB.out) | (with_reducible refine Kd.C_alloc ?_ _) | (with_reducible refine Kd.C_drewN ?_ _) | (with_reducible refine Kd.C_drew ?_))); (case side2 => exact HC0.out); rintro e w20 ⟨rfl, hb⟩; have n0_ := Aside0.mk (below_step (by repeat (first | (with_reducible first | exact HB.out | apply below_alloc | apply pw_below_drewN | apply below_drew1) | exact HB.out)) hb); clear HB; have HB := n0_; clear n0_; (try clear hb); (try clear hb2); (try clear hk); (try clear hi)) | (go_at_call 9; (with_reducible refine (impl_RankOfSpoke.calls k _ _ l0 a1 t271 t272 _ ?side1 ?side2 A6.out).mono ?_); (case side1 => repeat (first | exact (Kd.C_below HR0.out HB.out) | (with_reducible refine Kd.C_alloc ?_ _) | (with_reducible refine Kd.C_drewN ?_ _) | (with_reducible refine Kd.C_drew ?_))); (case side2 => exact HC0.out); rintro e w21 ⟨rfl, hb⟩; have n0_ := Aside0.mk (below_step (by repeat (first | (with_reducible first | exact HB.out | apply below_alloc | apply pw_below_drewN | apply below_drew1) | exact HB.out)) hb); clear HB; have HB := n0_; clear n0_; (try clear hb); (try clear hb2); (try clear hk); (try clear hi)) | (go_at_call 10; (with_reducible refine (spec_RankOfSpoke.calls k _ _ l0 a1 t273 t274 _ ?side1 ?side2 A7.out).mono ?_); (case side1 => repeat (first | exact (Kd.C_below HR0.out HB.out) | (with_reducible refine Kd.C_alloc ?_ _) | (with_reducible refine Kd.C_drewN ?_ _) | (with_reducible refine Kd.C_drew ?_))); (case side2 => exact HC0.out); rintro e w22 ⟨rfl, hb⟩; have n0_ := Aside0.mk (below_step (by repeat (first | (with_reducible first | exact HB.out | apply below_alloc | apply pw_below_drewN | apply below_drew1) | exact HB.out)) hb); clear HB; have HB := n0_; clear n0_; (try clear hb); (try clear hb2); (try clear hk); (try clear hi)) | (go_at_call 11; (with_reducible refine (impl_IsSpoke.calls k _ _ l0 a1 t275 t276 _ ?side1 ?side2 A8.out).mono ?_); (case side1 => repeat (first | exact (Kd.C_below HR0.out HB.out) | (with_reducible refine Kd.C_alloc ?_ _) | (with_reducible refine Kd.C_drewN ?_ _) | (with_reducible refine Kd.C_drew ?_))); (case side2 => exact HC0.out); rintro e w23 ⟨rfl, hb⟩; have n0_ := Aside0.mk (below_step (by repeat (first | (with_reducible first | exact HB.out | apply below_alloc | apply pw_below_drewN | apply below_drew1) | exact HB.out)) hb); clear HB; have HB := n0_; clear n0_; (try clear hb); (try clear hb2); (try clear hk); (try clear hi)) | (go_at_call 12; (with_reducible refine (spec_IsSpoke.calls k _ _ l0 a1 t277 t278 _ ?side1 ?side2 A9.out).mono ?_); (case side1 => repeat (first | exact (Kd.C_below HR0.out HB.out) | (with_reducible refine Kd.C_alloc ?_ _) | (with_reducible refine Kd.C_drewN ?_ _) | (with_reducible refine Kd.C_drew ?_))); (case side2 => exact HC0.out); rintro e w24 ⟨rfl, hb⟩; have n0_ := Aside0.mk (below_step (by repeat (first | (with_reducible first | exact HB.out | apply below_alloc | apply pw_below_drewN | apply below_drew1) | exact HB.out)) hb); clear HB; have HB := n0_; clear n0_; (try clear hb); (try clear hb2); (try clear hk); (try clear hi)) | (go_at_call 13; (with_reducible refine (impl_SpokeNear.calls k _ _ l0 a1 t279 t280 _ ?side1 ?side2 A10.out).mono ?_); (case side1 => repeat (first | exact (Kd.C_below HR0.out HB.out) | (with_reducible refine Kd.C_alloc ?_ _) | (with_reducible refine Kd.C_drewN ?_ _) | (with_reducible refine Kd.C_drew ?_))); (case side2 => exact HC0.out); rintro e w25 ⟨rfl, hb⟩; have n0_ := Aside0.mk (below_step (by repeat (first | (with_reducible first | exact HB.out | apply below_alloc | apply pw_below_drewN | apply below_drew1) | exact HB.out)) hb); clear HB; have HB := n0_; clear n0_; (try clear hb); (try clear hb2); (try clear hk); (try clear hi)) | (go_at_call 14; (with_reducible refine (spec_SpokeNear.calls k _ _ l0 a1 t281 t282 _ ?side1 ?side2 A11.out).mono ?_); (case side1 => repeat (first | exact (Kd.C_below HR0.out HB.out) | (with_reducible refine Kd.C_alloc ?_ _) | (with_reducible refine Kd.C_drewN ?_ _) | (with_reducible refine Kd.C_drew ?_))); (case side2 => exact HC0.out); rintro e w26 ⟨rfl, hb⟩; have n0_ := Aside0.mk (below_step (by repeat (first | (with_reducible first | exact HB.out | apply below_alloc | apply pw_below_drewN | apply below_drew1) | exact HB.out)) hb); clear HB; have HB := n0_; clear n0_; (try clear hb); (try clear hb2); (try clear hk); (try clear hi)) | (go_at_call 15; (with_reducible refine (impl_SpokesOf.calls k _ _ l0 t283 t284 _ ?side1 ?side2 A12.out).mono ?_); (case side1 => repeat (first | exact (Kd.C_below HR0.out HB.out) | (with_reducible refine Kd.C_alloc ?_ _) | (with_reducible refine Kd.C_drewN ?_ _) | (with_reducible refine Kd.C_drew ?_))); (case side2 => exact HC0.out); rintro e w27 ⟨v285, rfl, ho0, hb⟩; have n0_ := Aside0.mk (Kd.R_lower ho0 (below_size (by repeat (first | (with_reducible first | exact HB.out | apply below_alloc | apply pw_below_drewN | apply below_drew1) | exact HB.out)))); have n1_ := Aside0.mk (below_step (by repeat (first | (with_reducible first | exact HB.out | apply below_alloc | apply pw_below_drewN | apply below_drew1) | exact HB.out)) hb); clear HB; have HO286 := n0_; have HB := n1_; clear n0_ n1_; (try clear hb); (try clear hb2); (try clear hk); (try clear hi); (try clear ho0)) | (go_at_call 16; (with_reducible refine (spec_SpokesOf.calls k _ _ l0 t287 t288 _ ?side1 ?side2 A13.out).mono ?_); (case side1 => repeat (first | exact (Kd.C_below HR0.out HB.out) | (with_reducible refine Kd.C_alloc ?_ _) | (with_reducible refine Kd.C_drewN ?_ _) | (with_reducible refine Kd.C_drew ?_))); (case side2 => exact HC0.out); rintro e w28 ⟨v289, rfl, ho0, hb⟩; have n0_ := Aside0.mk (Kd.R_elder' (by (with_reducible repeat (first | apply Kd.R_alloc | apply Kd.R_drewN | apply Kd.R_drew)); exact HO286.out) (Kd.R_base ho0) hb); have n1_ := Aside0.mk (Kd.R_lower (Kd.R_new' ho0 (Kd.R_lt (by (with_reducible repeat (first | apply Kd.R_alloc | apply Kd.R_drewN | apply Kd.R_drew)); exact HO286.out))) (below_size (by repeat (first | (with_reducible first | exact HB.out | apply below_alloc | apply pw_below_drewN | apply below_drew1) | exact HB.out)))); have n2_ := Aside0.mk (below_step (by repeat (first | (with_reducible first | exact HB.out | apply below_alloc | apply pw_below_drewN | apply below_drew1) | exact HB.out)) hb); clear HO286; clear HB; have HO286 := n0_; have HO290 := n1_; have HB := n2_; clear n0_ n1_ n2_; (try clear hb); (try clear hb2); (try clear hk); (try clear hi); (try clear ho0)) | (go_at_call 17; (with_reducible refine (impl_StepsOf.calls k _ _ l0 t291 t292 _ ?side1 ?side2 A14.out).mono ?_); (case side1 => repeat (first | exact (Kd.C_below HR0.out HB.out) | (with_reducible refine Kd.C_alloc ?_ _) | (with_reducible refine Kd.C_drewN ?_ _) | (with_reducible refine Kd.C_drew ?_))); (case side2 => exact HC0.out); rintro e w29 ⟨v293, rfl, ho0, hb⟩; have n0_ := Aside0.mk (Kd.R_elder' (by (with_reducible repeat (first | apply Kd.R_alloc | apply Kd.R_drewN | apply Kd.R_drew)); exact HO286.out) (Kd.R_base ho0) hb); have n1_ := Aside0.mk (Kd.R_elder' (by (with_reducible repeat (first | apply Kd.R_alloc | apply Kd.R_drewN | apply Kd.R_drew)); exact HO290.out) (Kd.R_base ho0) hb); have n2_ := Aside0.mk (Kd.R_lower (Kd.R_new' (Kd.R_new' ho0 (Kd.R_lt (by (with_reducible repeat (first | apply Kd.R_alloc | apply Kd.R_drewN | apply Kd.R_drew)); exact HO286.out))) (Kd.R_lt (by (with_reducible repeat (first | apply Kd.R_alloc | apply Kd.R_drewN | apply Kd.R_drew)); exact HO290.out))) (below_size (by repeat (first | (with_reducible first | exact HB.out | apply below_alloc | apply pw_below_drewN | apply below_drew1) | exact HB.out)))); have n3_ := Aside0.mk (below_step (by repeat (first | (with_reducible first | exact HB.out | apply below_alloc | apply pw_below_drewN | apply below_drew1) | exact HB.out)) hb); clear HO286; clear HO290; clear HB; have HO286 := n0_; have HO290 := n1_; have HO294 := n2_; have HB := n3_; clear n0_ n1_ n2_ n3_; (try clear hb); (try clear hb2); (try clear hk); (try clear hi); (try clear ho0)) | (go_at_call 18; (with_reducible refine (spec_StepsOf.calls k _ _ l0 t295 t296 _ ?side1 ?side2 A15.out).mono ?_); (case side1 => repeat (first | exact (Kd.C_below HR0.out HB.out) | (with_reducible refine Kd.C_alloc ?_ _) | (with_reducible refine Kd.C_drewN ?_ _) | (with_reducible refine Kd.C_drew ?_))); (case side2 => exact HC0.out); rintro e w30 ⟨v297, rfl, ho0, hb⟩; have n0_ := Aside0.mk (Kd.R_elder' (by (with_reducible repeat (first | apply Kd.R_alloc | apply Kd.R_drewN | apply Kd.R_drew)); exact HO286.out) (Kd.R_base ho0) hb); have n1_ := Aside0.mk (Kd.R_elder' (by (with_reducible repeat (first | apply Kd.R_alloc | apply Kd.R_drewN | apply Kd.R_drew)); exact HO290.out) (Kd.R_base ho0) hb); have n2_ := Aside0.mk (Kd.R_elder' (by (with_reducible repeat (first | apply Kd.R_alloc | apply Kd.R_drewN | apply Kd.R_drew)); exact HO294.out) (Kd.R_base ho0) hb); have n3_ := Aside0.mk (Kd.R_lower (Kd.R_new' (Kd.R_new' (Kd.R_new' ho0 (Kd.R_lt (by (with_reducible repeat (first | apply Kd.R_alloc | apply Kd.R_drewN | apply Kd.R_drew)); exact HO286.out))) (Kd.R_lt (by (with_reducible repeat (first | apply Kd.R_alloc | apply Kd.R_drewN | apply Kd.R_drew)); exact HO290.out))) (Kd.R_lt (by (with_reducible repeat (first | apply Kd.R_alloc | apply Kd.R_drewN | apply Kd.R_drew)); exact HO294.out))) (below_size (by repeat (first | (with_reducible first | exact HB.out | apply below_alloc | apply pw_below_drewN | apply below_drew1) | exact HB.out)))); have n4_ := Aside0.mk (below_step (by repeat (first | (with_reducible first | exact HB.out | apply below_alloc | apply pw_below_drewN | apply below_drew1) | exact HB.out)) hb); clear HO286; clear HO290; clear HO294; clear HB; have HO286 := n0_; have HO290 := n1_; have HO294 := n2_; have HO298 := n3_; have HB := n4_; clear n0_ n1_ n2_ n3_ n4_; (try clear hb); (try clear hb2); (try clear hk); (try clear hi); (try clear ho0)) | (go_at_call 19; (with_reducible refine (impl_CountSpokes.calls k _ _ l0 t299 t300 _ ?side1 ?side2 A16.out).mono ?_); (case side1 => repeat (first | exact (Kd.C_below HR0.out HB.out) | (with_reducible refine Kd.C_alloc ?_ _) | (with_reducible refine Kd.C_drewN ?_ _) | (with_reducible refine Kd.C_drew ?_))); (case side2 => exact HC0.out); rintro e w31 ⟨rfl, hb⟩; have n0_ := Aside0.mk (Kd.R_below (by (with_reducible repeat (first | apply Kd.R_alloc | apply Kd.R_drewN | apply Kd.R_drew)); exact HO286.out) hb); have n1_ := Aside0.mk (Kd.R_below (by (with_reducible repeat (first | apply Kd.R_alloc | apply Kd.R_drewN | apply Kd.R_drew)); exact HO290.out) hb); have n2_ := Aside0.mk (Kd.R_below (by (with_reducible repeat (first | apply Kd.R_alloc | apply Kd.R_drewN | apply Kd.R_drew)); exact HO294.out) hb); have n3_ := Aside0.mk (Kd.R_below (by (with_reducible repeat (first | apply Kd.R_alloc | apply Kd.R_drewN | apply Kd.R_drew)); exact HO298.out) hb); have n4_ := Aside0.mk (below_step (by repeat (first | (with_reducible first | exact HB.out | apply below_alloc | apply pw_below_drewN | apply below_drew1) | exact HB.out)) hb); clear HO286; clear HO290; clear HO294; clear HO298; clear HB; have HO286 := n0_; have HO290 := n1_; have HO294 := n2_; have HO298 := n3_; have HB := n4_; clear n0_ n1_ n2_ n3_ n4_; (try clear hb); (try clear hb2); (try clear hk); (try clear hi)) | (go_at_call 20; (with_reducible refine (spec_CountSpokes.calls k _ _ l0 t301 t302 _ ?side1 ?side2 A17.out).mono ?_); (case side1 => repeat (first | exact (Kd.C_below HR0.out HB.out) | (with_reducible refine Kd.C_alloc ?_ _) | (with_reducible refine Kd.C_drewN ?_ _) | (with_reducible refine Kd.C_drew ?_))); (case side2 => exact HC0.out); rintro e w32 ⟨rfl, hb⟩; have n0_ := Aside0.mk (Kd.R_below (by (with_reducible repeat (first | apply Kd.R_alloc | apply Kd.R_drewN | apply Kd.R_drew)); exact HO286.out) hb); have n1_ := Aside0.mk (Kd.R_below (by (with_reducible repeat (first | apply Kd.R_alloc | apply Kd.R_drewN | apply Kd.R_drew)); exact HO290.out) hb); have n2_ := Aside0.mk (Kd.R_below (by (with_reducible repeat (first | apply Kd.R_alloc | apply Kd.R_drewN | apply Kd.R_drew)); exact HO294.out) hb); have n3_ := Aside0.mk (Kd.R_below (by (with_reducible repeat (first | apply Kd.R_alloc | apply Kd.R_drewN | apply Kd.R_drew)); exact HO298.out) hb); have n4_ := Aside0.mk (below_step (by repeat (first | (with_reducible first | exact HB.out | apply below_alloc | apply pw_below_drewN | apply below_drew1) | exact HB.out)) hb); clear HO286; clear HO290; clear HO294; clear HO298; clear HB; have HO286 := n0_; have HO290 := n1_; have HO294 := n2_; have HO298 := n3_; have HB := n4_; clear n0_ n1_ n2_ n3_ n4_; (try clear hb); (try clear hb2); (try clear hk); (try clear hi))); go_upto_region 17 with (first | (go_at_call 7; (with_reducible refine (impl_SpokeOfRank.calls k _ _ l0 a1 t267 t268 _ ?side1 ?side2 A4.out).mono ?_); (case side1 => repeat (first | exact HR0.out | (with_reducible refine Kd.C_alloc ?_ _) | (with_reducible refine Kd.C_drewN ?_ _) | (with_reducible refine Kd.C_drew ?_))); (case side2 => exact HC0.out); rintro e w19 ⟨rfl, hb⟩; have n0_ := Aside0.mk (below_step (by repeat (first | (with_reducible first | exact HB.out | apply below_alloc | apply pw_below_drewN | apply below_drew1) | exact HB.out)) hb); clear HB; have HB := n0_; clear n0_; (try clear hb); (try clear hb2); (try clear hk); (try clear hi)) | (go_at_call 8; (with_reducible refine (spec_SpokeOfRank.calls k _ _ l0 a1 t269 t270 _ ?side1 ?side2 A5.out).mono ?_); (case side1 => repeat (first | exact (Kd.C_below HR0.out HB.out) | (with_reducible refine Kd.C_alloc ?_ _) | (with_reducible refine Kd.C_drewN ?_ _) | (with_reducible refine Kd.C_drew ?_))); (case side2 => exact HC0.out); rintro e w20 ⟨rfl, hb⟩; have n0_ := Aside0.mk (below_step (by repeat (first | (with_reducible first | exact HB.out | apply below_alloc | apply pw_below_drewN | apply below_drew1) | exact HB.out)) hb); clear HB; have HB := n0_; clear n0_; (try clear hb); (try clear hb2); (try clear hk); (try clear hi)) | (go_at_call 9; (with_reducible refine (impl_RankOfSpoke.calls k _ _ l0 a1 t271 t272 _ ?side1 ?side2 A6.out).mono ?_); (case side1 => repeat (first | exact (Kd.C_below HR0.out HB.out) | (with_reducible refine Kd.C_alloc ?_ _) | (with_reducible refine Kd.C_drewN ?_ _) | (with_reducible refine Kd.C_drew ?_))); (case side2 => exact HC0.out); rintro e w21 ⟨rfl, hb⟩; have n0_ := Aside0.mk (below_step (by repeat (first | (with_reducible first | exact HB.out | apply below_alloc | apply pw_below_drewN | apply below_drew1) | exact HB.out)) hb); clear HB; have HB := n0_; clear n0_; (try clear hb); (try clear hb2); (try clear hk); (try clear hi)) | (go_at_call 10; (with_reducible refine (spec_RankOfSpoke.calls k _ _ l0 a1 t273 t274 _ ?side1 ?side2 A7.out).mono ?_); (case side1 => repeat (first | exact (Kd.C_below HR0.out HB.out) | (with_reducible refine Kd.C_alloc ?_ _) | (with_reducible refine Kd.C_drewN ?_ _) | (with_reducible refine Kd.C_drew ?_))); (case side2 => exact HC0.out); rintro e w22 ⟨rfl, hb⟩; have n0_ := Aside0.mk (below_step (by repeat (first | (with_reducible first | exact HB.out | apply below_alloc | apply pw_below_drewN | apply below_drew1) | exact HB.out)) hb); clear HB; have HB := n0_; clear n0_; (try clear hb); (try clear hb2); (try clear hk); (try clear hi)) | (go_at_call 11; (with_reducible refine (impl_IsSpoke.calls k _ _ l0 a1 t275 t276 _ ?side1 ?side2 A8.out).mono ?_); (case side1 => repeat (first | exact (Kd.C_below HR0.out HB.out) | (with_reducible refine Kd.C_alloc ?_ _) | (with_reducible refine Kd.C_drewN ?_ _) | (with_reducible refine Kd.C_drew ?_))); (case side2 => exact HC0.out); rintro e w23 ⟨rfl, hb⟩; have n0_ := Aside0.mk (below_step (by repeat (first | (with_reducible first | exact HB.out | apply below_alloc | apply pw_below_drewN | apply below_drew1) | exact HB.out)) hb); clear HB; have HB := n0_; clear n0_; (try clear hb); (try clear hb2); (try clear hk); (try clear hi)) | (go_at_call 12; (with_reducible refine (spec_IsSpoke.calls k _ _ l0 a1 t277 t278 _ ?side1 ?side2 A9.out).mono ?_); (case side1 => repeat (first | exact (Kd.C_below HR0.out HB.out) | (with_reducible refine Kd.C_alloc ?_ _) | (with_reducible refine Kd.C_drewN ?_ _) | (with_reducible refine Kd.C_drew ?_))); (case side2 => exact HC0.out); rintro e w24 ⟨rfl, hb⟩; have n0_ := Aside0.mk (below_step (by repeat (first | (with_reducible first | exact HB.out | apply below_alloc | apply pw_below_drewN | apply below_drew1) | exact HB.out)) hb); clear HB; have HB := n0_; clear n0_; (try clear hb); (try clear hb2); (try clear hk); (try clear hi)) | (go_at_call 13; (with_reducible refine (impl_SpokeNear.calls k _ _ l0 a1 t279 t280 _ ?side1 ?side2 A10.out).mono ?_); (case side1 => repeat (first | exact (Kd.C_below HR0.out HB.out) | (with_reducible refine Kd.C_alloc ?_ _) | (with_reducible refine Kd.C_drewN ?_ _) | (with_reducible refine Kd.C_drew ?_))); (case side2 => exact HC0.out); rintro e w25 ⟨rfl, hb⟩; have n0_ := Aside0.mk (below_step (by repeat (first | (with_reducible first | exact HB.out | apply below_alloc | apply pw_below_drewN | apply below_drew1) | exact HB.out)) hb); clear HB; have HB := n0_; clear n0_; (try clear hb); (try clear hb2); (try clear hk); (try clear hi)) | (go_at_call 14; (with_reducible refine (spec_SpokeNear.calls k _ _ l0 a1 t281 t282 _ ?side1 ?side2 A11.out).mono ?_); (case side1 => repeat (first | exact (Kd.C_below HR0.out HB.out) | (with_reducible refine Kd.C_alloc ?_ _) | (with_reducible refine Kd.C_drewN ?_ _) | (with_reducible refine Kd.C_drew ?_))); (case side2 => exact HC0.out); rintro e w26 ⟨rfl, hb⟩; have n0_ := Aside0.mk (below_step (by repeat (first | (with_reducible first | exact HB.out | apply below_alloc | apply pw_below_drewN | apply below_drew1) | exact HB.out)) hb); clear HB; have HB := n0_; clear n0_; (try clear hb); (try clear hb2); (try clear hk); (try clear hi)) | (go_at_call 15; (with_reducible refine (impl_SpokesOf.calls k _ _ l0 t283 t284 _ ?side1 ?side2 A12.out).mono ?_); (case side1 => repeat (first | exact (Kd.C_below HR0.out HB.out) | (with_reducible refine Kd.C_alloc ?_ _) | (with_reducible refine Kd.C_drewN ?_ _) | (with_reducible refine Kd.C_drew ?_))); (case side2 => exact HC0.out); rintro e w27 ⟨v285, rfl, ho0, hb⟩; have n0_ := Aside0.mk (Kd.R_lower ho0 (below_size (by repeat (first | (with_reducible first | exact HB.out | apply below_alloc | apply pw_below_drewN | apply below_drew1) | exact HB.out)))); have n1_ := Aside0.mk (below_step (by repeat (first | (with_reducible first | exact HB.out | apply below_alloc | apply pw_below_drewN | apply below_drew1) | exact HB.out)) hb); clear HB; have HO286 := n0_; have HB := n1_; clear n0_ n1_; (try clear hb); (try clear hb2); (try clear hk); (try clear hi); (try clear ho0)) | (go_at_call 16; (with_reducible refine (spec_SpokesOf.calls k _ _ l0 t287 t288 _ ?side1 ?side2 A13.out).mono ?_); (case side1 => repeat (first | exact (Kd.C_below HR0.out HB.out) | (with_reducible refine Kd.C_alloc ?_ _) | (with_reducible refine Kd.C_drewN ?_ _) | (with_reducible refine Kd.C_drew ?_))); (case side2 => exact HC0.out); rintro e w28 ⟨v289, rfl, ho0, hb⟩; have n0_ := Aside0.mk (Kd.R_elder' (by (with_reducible repeat (first | apply Kd.R_alloc | apply Kd.R_drewN | apply Kd.R_drew)); exact HO286.out) (Kd.R_base ho0) hb); have n1_ := Aside0.mk (Kd.R_lower (Kd.R_new' ho0 (Kd.R_lt (by (with_reducible repeat (first | apply Kd.R_alloc | apply Kd.R_drewN | apply Kd.R_drew)); exact HO286.out))) (below_size (by repeat (first | (with_reducible first | exact HB.out | apply below_alloc | apply pw_below_drewN | apply below_drew1) | exact HB.out)))); have n2_ := Aside0.mk (below_step (by repeat (first | (with_reducible first | exact HB.out | apply below_alloc | apply pw_below_drewN | apply below_drew1) | exact HB.out)) hb); clear HO286; clear HB; have HO286 := n0_; have HO290 := n1_; have HB := n2_; clear n0_ n1_ n2_; (try clear hb); (try clear hb2); (try clear hk); (try clear hi); (try clear ho0)) | (go_at_call 17; (with_reducible refine (impl_StepsOf.calls k _ _ l0 t291 t292 _ ?side1 ?side2 A14.out).mono ?_); (case side1 => repeat (first | exact (Kd.C_below HR0.out HB.out) | (with_reducible refine Kd.C_alloc ?_ _) | (with_reducible refine Kd.C_drewN ?_ _) | (with_reducible refine Kd.C_drew ?_))); (case side2 => exact HC0.out); rintro e w29 ⟨v293, rfl, ho0, hb⟩; have n0_ := Aside0.mk (Kd.R_elder' (by (with_reducible repeat (first | apply Kd.R_alloc | apply Kd.R_drewN | apply Kd.R_drew)); exact HO286.out) (Kd.R_base ho0) hb); have n1_ := Aside0.mk (Kd.R_elder' (by (with_reducible repeat (first | apply Kd.R_alloc | apply Kd.R_drewN | apply Kd.R_drew)); exact HO290.out) (Kd.R_base ho0) hb); have n2_ := Aside0.mk (Kd.R_lower (Kd.R_new' (Kd.R_new' ho0 (Kd.R_lt (by (with_reducible repeat (first | apply Kd.R_alloc | apply Kd.R_drewN | apply Kd.R_drew)); exact HO286.out))) (Kd.R_lt (by (with_reducible repeat (first | apply Kd.R_alloc | apply Kd.R_drewN | apply Kd.R_drew)); exact HO290.out))) (below_size (by repeat (first | (with_reducible first | exact HB.out | apply below_alloc | apply pw_below_drewN | apply below_drew1) | exact HB.out)))); have n3_ := Aside0.mk (below_step (by repeat (first | (with_reducible first | exact HB.out | apply below_alloc | apply pw_below_drewN | apply below_drew1) | exact HB.out)) hb); clear HO286; clear HO290; clear HB; have HO286 := n0_; have HO290 := n1_; have HO294 := n2_; have HB := n3_; clear n0_ n1_ n2_ n3_; (try clear hb); (try clear hb2); (try clear hk); (try clear hi); (try clear ho0)) | (go_at_call 18; (with_reducible refine (spec_StepsOf.calls k _ _ l0 t295 t296 _ ?side1 ?side2 A15.out).mono ?_); (case side1 => repeat (first | exact (Kd.C_below HR0.out HB.out) | (with_reducible refine Kd.C_alloc ?_ _) | (with_reducible refine Kd.C_drewN ?_ _) | (with_reducible refine Kd.C_drew ?_))); (case side2 => exact HC0.out); rintro e w30 ⟨v297, rfl, ho0, hb⟩; have n0_ := Aside0.mk (Kd.R_elder' (by (with_reducible repeat (first | apply Kd.R_alloc | apply Kd.R_drewN | apply Kd.R_drew)); exact HO286.out) (Kd.R_base ho0) hb); have n1_ := Aside0.mk (Kd.R_elder' (by (with_reducible repeat (first | apply Kd.R_alloc | apply Kd.R_drewN | apply Kd.R_drew)); exact HO290.out) (Kd.R_base ho0) hb); have n2_ := Aside0.mk (Kd.R_elder' (by (with_reducible repeat (first | apply Kd.R_alloc | apply Kd.R_drewN | apply Kd.R_drew)); exact HO294.out) (Kd.R_base ho0) hb); have n3_ := Aside0.mk (Kd.R_lower (Kd.R_new' (Kd.R_new' (Kd.R_new' ho0 (Kd.R_lt (by (with_reducible repeat (first | apply Kd.R_alloc | apply Kd.R_drewN | apply Kd.R_drew)); exact HO286.out))) (Kd.R_lt (by (with_reducible repeat (first | apply Kd.R_alloc | apply Kd.R_drewN | apply Kd.R_drew)); exact HO290.out))) (Kd.R_lt (by (with_reducible repeat (first | apply Kd.R_alloc | apply Kd.R_drewN | apply Kd.R_drew)); exact HO294.out))) (below_size (by repeat (first | (with_reducible first | exact HB.out | apply below_alloc | apply pw_below_drewN | apply below_drew1) | exact HB.out)))); have n4_ := Aside0.mk (below_step (by repeat (first | (with_reducible first | exact HB.out | apply below_alloc | apply pw_below_drewN | apply below_drew1) | exact HB.out)) hb); clear HO286; clear HO290; clear HO294; clear HB; have HO286 := n0_; have HO290 := n1_; have HO294 := n2_; have HO298 := n3_; have HB := n4_; clear n0_ n1_ n2_ n3_ n4_; (try clear hb); (try clear hb2); (try clear hk); (try clear hi); (try clear ho0)) | (go_at_call 19; (with_reducible refine (impl_CountSpokes.calls k _ _ l0 t299 t300 _ ?side1 ?side2 A16.out).mono ?_); (case side1 => repeat (first | exact (Kd.C_below HR0.out HB.out) | (with_reducible refine Kd.C_alloc ?_ _) | (with_reducible refine Kd.C_drewN ?_ _) | (with_reducible refine Kd.C_drew ?_))); (case side2 => exact HC0.out); rintro e w31 ⟨rfl, hb⟩; have n0_ := Aside0.mk (Kd.R_below (by (with_reducible repeat (first | apply Kd.R_alloc | apply Kd.R_drewN | apply Kd.R_drew)); exact HO286.out) hb); have n1_ := Aside0.mk (Kd.R_below (by (with_reducible repeat (first | apply Kd.R_alloc | apply Kd.R_drewN | apply Kd.R_drew)); exact HO290.out) hb); have n2_ := Aside0.mk (Kd.R_below (by (with_reducible repeat (first | apply Kd.R_alloc | apply Kd.R_drewN | apply Kd.R_drew)); exact HO294.out) hb); have n3_ := Aside0.mk (Kd.R_below (by (with_reducible repeat (first | apply Kd.R_alloc | apply Kd.R_drewN | apply Kd.R_drew)); exact HO298.out) hb); have n4_ := Aside0.mk (below_step (by repeat (first | (with_reducible first | exact HB.out | apply below_alloc | apply pw_below_drewN | apply below_drew1) | exact HB.out)) hb); clear HO286; clear HO290; clear HO294; clear HO298; clear HB; have HO286 := n0_; have HO290 := n1_; have HO294 := n2_; have HO298 := n3_; have HB := n4_; clear n0_ n1_ n2_ n3_ n4_; (try clear hb); (try clear hb2); (try clear hk); (try clear hi)) | (go_at_call 20; (with_reducible refine (spec_CountSpokes.calls k _ _ l0 t301 t302 _ ?side1 ?side2 A17.out).mono ?_); (case side1 => repeat (first | exact (Kd.C_below HR0.out HB.out) | (with_reducible refine Kd.C_alloc ?_ _) | (with_reducible refine Kd.C_drewN ?_ _) | (with_reducible refine Kd.C_drew ?_))); (case side2 => exact HC0.out); rintro e w32 ⟨rfl, hb⟩; have n0_ := Aside0.mk (Kd.R_below (by (with_reducible repeat (first | apply Kd.R_alloc | apply Kd.R_drewN | apply Kd.R_drew)); exact HO286.out) hb); have n1_ := Aside0.mk (Kd.R_below (by (with_reducible repeat (first | apply Kd.R_alloc | apply Kd.R_drewN | apply Kd.R_drew)); exact HO290.out) hb); have n2_ := Aside0.mk (Kd.R_below (by (with_reducible repeat (first | apply Kd.R_alloc | apply Kd.R_drewN | apply Kd.R_drew)); exact HO294.out) hb); have n3_ := Aside0.mk (Kd.R_below (by (with_reducible repeat (first | apply Kd.R_alloc | apply Kd.R_drewN | apply Kd.R_drew)); exact HO298.out) hb); have n4_ := Aside0.mk (below_step (by repeat (first | (with_reducible first | exact HB.out | apply below_alloc | apply pw_below_drewN | apply below_drew1) | exact HB.out)) hb); clear HO286; clear HO290; clear HO294; clear HO298; clear HB; have HO286 := n0_; have HO290 := n1_; have HO294 := n2_; have HO298 := n3_; have HB := n4_; clear n0_ n1_ n2_ n3_ n4_; (try clear hb); (try clear hb2); (try clear hk); (try clear hi))))
  (try simp only [Act.put, List.setIfInBounds_toArray, List.set_cons_zero, List.set_cons_succ])
  go_cut [234] from 9999 to 9999 (fun v234 wc => ∃ (kq : Nat) (x234_17 : Bool), v234 = .bool x234_17 ∧ Aside0 (laws_FnWheelsTurnOfAll.j0 kq l0 a1 t267 t268 t271 t272 t275 t279 t280 t283 t284 t291 t299 x234_17 = some r) ∧ Aside0 (kq ≤ k) ∧ Aside0 (Kd.R (Kd.int .i64) 3 wc w.heap.size (fun k_ => some k_ ≠ (v293 : Value).ownBlock) v285 t283) ∧ Aside0 (Kd.R (Kd.int .i64) 3 wc w.heap.size (fun k_ => some k_ ≠ (v285 : Value).ownBlock) v293 t291) ∧ Aside0 (Below w.heap.size w wc))
  case first =>
   as_aux_lemma =>
   have H := HC18.out
   clear HC18
   have c33 : ¬ ((t268 != t270) = true) := fun c33 => by
    rw [if_pos c33] at H
    exact absurd H (by simp)
   rw [if_neg c33] at H
   have c33b0 : (t268 != t270) = false := by simpa using c33
   (try (have c33b1 : decide (t268 = t270) = true := by simpa using c33))
   (try (have c33b2 : (t268 == t270) = true := by simpa using c33))
   clear c33
   (first | rw [c33b0] | (simp only [i64_w, i32_w]; rw [c33b0]) | skip)
   have c34 : t267 = t269 := Classical.byContradiction fun c34 => by
    rw [if_neg c34] at H
    exact absurd H (by simp)
   rw [if_pos c34] at H
   have c34b0 : (t267 == t269) = true := beq_iff_eq.mpr c34
   have c34b1 : (t267 != t269) = false := bne_eq_false_iff_eq.mpr c34
   clear c34
   have c35 : ¬ ((t272 != t274) = true) := fun c35 => by
    rw [if_pos c35] at H
    exact absurd H (by simp)
   rw [if_neg c35] at H
   have c35b0 : (t272 != t274) = false := by simpa using c35
   (try (have c35b1 : decide (t272 = t274) = true := by simpa using c35))
   (try (have c35b2 : (t272 == t274) = true := by simpa using c35))
   clear c35
   have c36 : t271 = t273 := Classical.byContradiction fun c36 => by
    rw [if_neg c36] at H
    exact absurd H (by simp)
   rw [if_pos c36] at H
   have c36b0 : (t271 == t273) = true := beq_iff_eq.mpr c36
   have c36b1 : (t271 != t273) = false := bne_eq_false_iff_eq.mpr c36
   clear c36
   have c37 : ¬ ((t276 != t278) = true) := fun c37 => by
    rw [if_pos c37] at H
    exact absurd H (by simp)
   rw [if_neg c37] at H
   have c37b0 : (t276 != t278) = false := by simpa using c37
   (try (have c37b1 : decide (t276 = t278) = true := by simpa using c37))
   (try (have c37b2 : (t276 == t278) = true := by simpa using c37))
   clear c37
   have c38 : ¬ ((t275 != t277) = true) := fun c38 => by
    rw [if_pos c38] at H
    exact absurd H (by simp)
   rw [if_neg c38] at H
   have c38b0 : (t275 != t277) = false := by simpa using c38
   (try (have c38b1 : decide (t275 = t277) = true := by simpa using c38))
   (try (have c38b2 : (t275 == t277) = true := by simpa using c38))
   clear c38
   have c39 : ¬ ((t280 != t282) = true) := fun c39 => by
    rw [if_pos c39] at H
    exact absurd H (by simp)
   rw [if_neg c39] at H
   have c39b0 : (t280 != t282) = false := by simpa using c39
   (try (have c39b1 : decide (t280 = t282) = true := by simpa using c39))
   (try (have c39b2 : (t280 == t282) = true := by simpa using c39))
   clear c39
   have c40 : t279 = t281 := Classical.byContradiction fun c40 => by
    rw [if_neg c40] at H
    exact absurd H (by simp)
   rw [if_pos c40] at H
   have c40b0 : (t279 == t281) = true := beq_iff_eq.mpr c40
   have c40b1 : (t279 != t281) = false := bne_eq_false_iff_eq.mpr c40
   clear c40
   have c41 : ¬ ((t284 != t288) = true) := fun c41 => by
    rw [if_pos c41] at H
    exact absurd H (by simp)
   rw [if_neg c41] at H
   have c41b0 : (t284 != t288) = false := by simpa using c41
   (try (have c41b1 : decide (t284 = t288) = true := by simpa using c41))
   (try (have c41b2 : (t284 == t288) = true := by simpa using c41))
   clear c41
   replace H := Option.bind_eq_some_iff.mp H
   obtain ⟨t303, A420, H⟩ := H
   replace H : (if t303 = true then (if (t292 != t296) = true then (none) else ((laws_gSame.f k t291 t295).bind fun t304 => (if t304 = true then (if (t300 != t302) = true then (none) else (if t299 = t301 then (if (t292 != t284) = true then (none) else (if (t300 != t284) = true then (none) else (if t276 = true then (if t275 = true then (if (t272 != (decide (a1 > 0))) = true then (none) else (if t284 = true then (laws_FnWheelsTurnOfAll.j0 k l0 a1 t267 t268 t271 t272 t275 t279 t280 t283 t284 t291 t299 (t280 != t276)) else (none))) else (if (t272 != false) = true then (none) else (if t284 = true then (laws_FnWheelsTurnOfAll.j0 k l0 a1 t267 t268 t271 t272 t275 t279 t280 t283 t284 t291 t299 (t280 != t276)) else (none)))) else (if (t272 != false) = true then (none) else (laws_FnWheelsTurnOfAll.j0 k l0 a1 t267 t268 t271 t272 t275 t279 t280 t283 t284 t291 t299 (t280 != t276)))))) else (none))) else (none)))) else (none)) = some r := H
   have A42 := Aside0.mk A420
   clear A420
   have c43 : t303 = true := Classical.byContradiction fun c43 => by
    replace c43 := Bool.eq_false_iff.mpr c43
    subst c43
    have H1 : (none) = some r := by rw [if_neg (show ¬ (false = true) by decide)] at H; exact H
    clear H
    have H := H1
    clear H1
    exact absurd H (by simp)
   subst c43
   have H1 : (if (t292 != t296) = true then (none) else ((laws_gSame.f k t291 t295).bind fun t304 => (if t304 = true then (if (t300 != t302) = true then (none) else (if t299 = t301 then (if (t292 != t284) = true then (none) else (if (t300 != t284) = true then (none) else (if t276 = true then (if t275 = true then (if (t272 != (decide (a1 > 0))) = true then (none) else (if t284 = true then (laws_FnWheelsTurnOfAll.j0 k l0 a1 t267 t268 t271 t272 t275 t279 t280 t283 t284 t291 t299 (t280 != t276)) else (none))) else (if (t272 != false) = true then (none) else (if t284 = true then (laws_FnWheelsTurnOfAll.j0 k l0 a1 t267 t268 t271 t272 t275 t279 t280 t283 t284 t291 t299 (t280 != t276)) else (none)))) else (if (t272 != false) = true then (none) else (laws_FnWheelsTurnOfAll.j0 k l0 a1 t267 t268 t271 t272 t275 t279 t280 t283 t284 t291 t299 (t280 != t276)))))) else (none))) else (none)))) = some r := by rw [if_pos rfl] at H; exact H
   clear H
   have H := H1
   clear H1
   have c44 : ¬ ((t292 != t296) = true) := fun c44 => by
    rw [if_pos c44] at H
    exact absurd H (by simp)
   rw [if_neg c44] at H
   have c44b0 : (t292 != t296) = false := by simpa using c44
   (try (have c44b1 : decide (t292 = t296) = true := by simpa using c44))
   (try (have c44b2 : (t292 == t296) = true := by simpa using c44))
   clear c44
   replace H := Option.bind_eq_some_iff.mp H
   obtain ⟨t304, A450, H⟩ := H
   replace H : (if t304 = true then (if (t300 != t302) = true then (none) else (if t299 = t301 then (if (t292 != t284) = true then (none) else (if (t300 != t284) = true then (none) else (if t276 = true then (if t275 = true then (if (t272 != (decide (a1 > 0))) = true then (none) else (if t284 = true then (laws_FnWheelsTurnOfAll.j0 k l0 a1 t267 t268 t271 t272 t275 t279 t280 t283 t284 t291 t299 (t280 != t276)) else (none))) else (if (t272 != false) = true then (none) else (if t284 = true then (laws_FnWheelsTurnOfAll.j0 k l0 a1 t267 t268 t271 t272 t275 t279 t280 t283 t284 t291 t299 (t280 != t276)) else (none)))) else (if (t272 != false) = true then (none) else (laws_FnWheelsTurnOfAll.j0 k l0 a1 t267 t268 t271 t272 t275 t279 t280 t283 t284 t291 t299 (t280 != t276)))))) else (none))) else (none)) = some r := H
   have A45 := Aside0.mk A450
   clear A450
   have c46 : t304 = true := Classical.byContradiction fun c46 => by
    replace c46 := Bool.eq_false_iff.mpr c46
    subst c46
    have H1 : (none) = some r := by rw [if_neg (show ¬ (false = true) by decide)] at H; exact H
    clear H
    have H := H1
    clear H1
    exact absurd H (by simp)
   subst c46
   have H1 : (if (t300 != t302) = true then (none) else (if t299 = t301 then (if (t292 != t284) = true then (none) else (if (t300 != t284) = true then (none) else (if t276 = true then (if t275 = true then (if (t272 != (decide (a1 > 0))) = true then (none) else (if t284 = true then (laws_FnWheelsTurnOfAll.j0 k l0 a1 t267 t268 t271 t272 t275 t279 t280 t283 t284 t291 t299 (t280 != t276)) else (none))) else (if (t272 != false) = true then (none) else (if t284 = true then (laws_FnWheelsTurnOfAll.j0 k l0 a1 t267 t268 t271 t272 t275 t279 t280 t283 t284 t291 t299 (t280 != t276)) else (none)))) else (if (t272 != false) = true then (none) else (laws_FnWheelsTurnOfAll.j0 k l0 a1 t267 t268 t271 t272 t275 t279 t280 t283 t284 t291 t299 (t280 != t276)))))) else (none))) = some r := by rw [if_pos rfl] at H; exact H
   clear H
   have H := H1
   clear H1
   have c47 : ¬ ((t300 != t302) = true) := fun c47 => by
    rw [if_pos c47] at H
    exact absurd H (by simp)
   rw [if_neg c47] at H
   have c47b0 : (t300 != t302) = false := by simpa using c47
   (try (have c47b1 : decide (t300 = t302) = true := by simpa using c47))
   (try (have c47b2 : (t300 == t302) = true := by simpa using c47))
   clear c47
   have c48 : t299 = t301 := Classical.byContradiction fun c48 => by
    rw [if_neg c48] at H
    exact absurd H (by simp)
   rw [if_pos c48] at H
   have c48b0 : (t299 == t301) = true := beq_iff_eq.mpr c48
   have c48b1 : (t299 != t301) = false := bne_eq_false_iff_eq.mpr c48
   clear c48
   have c49 : ¬ ((t292 != t284) = true) := fun c49 => by
    rw [if_pos c49] at H
    exact absurd H (by simp)
   rw [if_neg c49] at H
   have c49b0 : (t292 != t284) = false := by simpa using c49
   (try (have c49b1 : decide (t292 = t284) = true := by simpa using c49))
   (try (have c49b2 : (t292 == t284) = true := by simpa using c49))
   clear c49
   have c50 : ¬ ((t300 != t284) = true) := fun c50 => by
    rw [if_pos c50] at H
    exact absurd H (by simp)
   rw [if_neg c50] at H
   have c50b0 : (t300 != t284) = false := by simpa using c50
   (try (have c50b1 : decide (t300 = t284) = true := by simpa using c50))
   (try (have c50b2 : (t300 == t284) = true := by simpa using c50))
   clear c50
   by_cases c51 : t276 = true
   ·subst c51
    have H1 : (if t275 = true then (if (t272 != (decide (a1 > 0))) = true then (none) else (if t284 = true then (laws_FnWheelsTurnOfAll.j0 k l0 a1 t267 t268 t271 t272 t275 t279 t280 t283 t284 t291 t299 (t280 != true)) else (none))) else (if (t272 != false) = true then (none) else (if t284 = true then (laws_FnWheelsTurnOfAll.j0 k l0 a1 t267 t268 t271 t272 t275 t279 t280 t283 t284 t291 t299 (t280 != true)) else (none)))) = some r := by rw [if_pos rfl] at H; exact H
    clear H
    have H := H1
    clear H1
    by_cases c52 : t275 = true
    ·subst c52
     have H1 : (if (t272 != (decide (a1 > 0))) = true then (none) else (if t284 = true then (laws_FnWheelsTurnOfAll.j0 k l0 a1 t267 t268 t271 t272 true t279 t280 t283 t284 t291 t299 (t280 != true)) else (none))) = some r := by rw [if_pos rfl] at H; exact H
     clear H
     have H := H1
     clear H1
     have c53 : ¬ ((t272 != (decide (a1 > 0))) = true) := fun c53 => by
      rw [if_pos c53] at H
      exact absurd H (by simp)
     rw [if_neg c53] at H
     have c53b0 : (t272 != (decide (a1 > 0))) = false := by simpa using c53
     (try (have c53b1 : decide (t272 = (decide (a1 > 0))) = true := by simpa using c53))
     (try (have c53b2 : (t272 == (decide (a1 > 0))) = true := by simpa using c53))
     clear c53
     have c54 : t284 = true := Classical.byContradiction fun c54 => by
      replace c54 := Bool.eq_false_iff.mpr c54
      subst c54
      have H1 : (none) = some r := by rw [if_neg (show ¬ (false = true) by decide)] at H; exact H
      clear H
      have H := H1
      clear H1
      exact absurd H (by simp)
     subst c54
     have H1 : (laws_FnWheelsTurnOfAll.j0 k l0 a1 t267 t268 t271 t272 true t279 t280 t283 true t291 t299 (t280 != true)) = some r := by rw [if_pos rfl] at H; exact H
     clear H
     have H := H1
     clear H1
     have H' := Aside0.mk H
     clear H
     obtain ⟨Ao55, co55, eo55⟩ := Kd.R_slice HO286.out
     subst eo55
     obtain ⟨Ao56, co56, eo56⟩ := Kd.R_slice HO290.out
     subst eo56
     as_aux_lemma =>
     go_wp2_with (first | (go_at_call 21; (with_reducible refine (laws_gSame.calls k _ _ t283 _ _ t287 true _ ?side1 ?side2 ?side3 ?side4 A42.out).mono ?_); (case side1 => repeat (first | exact (Kd.R_reads' HO286.out).2.2 | (with_reducible refine Kd.C_alloc ?_ _) | (with_reducible refine Kd.C_drewN ?_ _) | (with_reducible refine Kd.C_drew ?_))); (case side2 => exact (Kd.R_reads' HO286.out).2.1); (case side3 => repeat (first | exact (Kd.R_reads' HO290.out).2.2 | (with_reducible refine Kd.C_alloc ?_ _) | (with_reducible refine Kd.C_drewN ?_ _) | (with_reducible refine Kd.C_drew ?_))); (case side4 => exact (Kd.R_reads' HO290.out).2.1); rintro e w' ⟨rfl, ⟨nd, rfl⟩⟩; (try first | exact ⟨rfl, _, World.drewN_drewN _ _ _⟩ | exact ⟨rfl, _, Eq.trans (World.drewN_drewN _ _ _) (congrArg (World.drewN _) (Nat.add_assoc _ _ _))⟩); obtain ⟨Ao57, co57, eo57⟩ := Kd.R_slice HO294.out; subst eo57; obtain ⟨Ao58, co58, eo58⟩ := Kd.R_slice HO298.out; subst eo58))
     as_aux_lemma =>
     go_wp2_with (first | (go_at_call 21; (with_reducible refine (laws_gSame.calls k _ _ t291 _ _ t295 true _ ?side1 ?side2 ?side3 ?side4 A45.out).mono ?_); (case side1 => repeat (first | exact (Kd.R_reads' HO294.out).2.2 | (with_reducible refine Kd.C_alloc ?_ _) | (with_reducible refine Kd.C_drewN ?_ _) | (with_reducible refine Kd.C_drew ?_))); (case side2 => exact (Kd.R_reads' HO294.out).2.1); (case side3 => repeat (first | exact (Kd.R_reads' HO298.out).2.2 | (with_reducible refine Kd.C_alloc ?_ _) | (with_reducible refine Kd.C_drewN ?_ _) | (with_reducible refine Kd.C_drew ?_))); (case side4 => exact (Kd.R_reads' HO298.out).2.1); rintro e w' ⟨rfl, ⟨nd, rfl⟩⟩; (try first | exact ⟨rfl, _, World.drewN_drewN _ _ _⟩ | exact ⟨rfl, _, Eq.trans (World.drewN_drewN _ _ _) (congrArg (World.drewN _) (Nat.add_assoc _ _ _))⟩)))
     repeat (go_quiet (first | (go_at_call 21; (with_reducible refine (laws_gSame.calls k _ _ t283 _ _ t287 true _ ?side1 ?side2 ?side3 ?side4 A42.out).mono ?_); (case side1 => repeat (first | exact (Kd.R_reads' HO286.out).2.2 | (with_reducible refine Kd.C_alloc ?_ _) | (with_reducible refine Kd.C_drewN ?_ _) | (with_reducible refine Kd.C_drew ?_))); (case side2 => exact (Kd.R_reads' HO286.out).2.1); (case side3 => repeat (first | exact (Kd.R_reads' HO290.out).2.2 | (with_reducible refine Kd.C_alloc ?_ _) | (with_reducible refine Kd.C_drewN ?_ _) | (with_reducible refine Kd.C_drew ?_))); (case side4 => exact (Kd.R_reads' HO290.out).2.1); rintro e w' ⟨rfl, ⟨nd, rfl⟩⟩; (try first | exact ⟨rfl, _, World.drewN_drewN _ _ _⟩ | exact ⟨rfl, _, Eq.trans (World.drewN_drewN _ _ _) (congrArg (World.drewN _) (Nat.add_assoc _ _ _))⟩); obtain ⟨Ao57, co57, eo57⟩ := Kd.R_slice HO294.out; subst eo57; obtain ⟨Ao58, co58, eo58⟩ := Kd.R_slice HO298.out; subst eo58) | (go_at_call 21; (with_reducible refine (laws_gSame.calls k _ _ t291 _ _ t295 true _ ?side1 ?side2 ?side3 ?side4 A45.out).mono ?_); (case side1 => repeat (first | exact (Kd.R_reads' HO294.out).2.2 | (with_reducible refine Kd.C_alloc ?_ _) | (with_reducible refine Kd.C_drewN ?_ _) | (with_reducible refine Kd.C_drew ?_))); (case side2 => exact (Kd.R_reads' HO294.out).2.1); (case side3 => repeat (first | exact (Kd.R_reads' HO298.out).2.2 | (with_reducible refine Kd.C_alloc ?_ _) | (with_reducible refine Kd.C_drewN ?_ _) | (with_reducible refine Kd.C_drew ?_))); (case side4 => exact (Kd.R_reads' HO298.out).2.1); rintro e w' ⟨rfl, ⟨nd, rfl⟩⟩; (try first | exact ⟨rfl, _, World.drewN_drewN _ _ _⟩ | exact ⟨rfl, _, Eq.trans (World.drewN_drewN _ _ _) (congrArg (World.drewN _) (Nat.add_assoc _ _ _))⟩))); try go_wp2_with (first | (go_at_call 21; (with_reducible refine (laws_gSame.calls k _ _ t283 _ _ t287 true _ ?side1 ?side2 ?side3 ?side4 A42.out).mono ?_); (case side1 => repeat (first | exact (Kd.R_reads' HO286.out).2.2 | (with_reducible refine Kd.C_alloc ?_ _) | (with_reducible refine Kd.C_drewN ?_ _) | (with_reducible refine Kd.C_drew ?_))); (case side2 => exact (Kd.R_reads' HO286.out).2.1); (case side3 => repeat (first | exact (Kd.R_reads' HO290.out).2.2 | (with_reducible refine Kd.C_alloc ?_ _) | (with_reducible refine Kd.C_drewN ?_ _) | (with_reducible refine Kd.C_drew ?_))); (case side4 => exact (Kd.R_reads' HO290.out).2.1); rintro e w' ⟨rfl, ⟨nd, rfl⟩⟩; (try first | exact ⟨rfl, _, World.drewN_drewN _ _ _⟩ | exact ⟨rfl, _, Eq.trans (World.drewN_drewN _ _ _) (congrArg (World.drewN _) (Nat.add_assoc _ _ _))⟩); obtain ⟨Ao57, co57, eo57⟩ := Kd.R_slice HO294.out; subst eo57; obtain ⟨Ao58, co58, eo58⟩ := Kd.R_slice HO298.out; subst eo58) | (go_at_call 21; (with_reducible refine (laws_gSame.calls k _ _ t291 _ _ t295 true _ ?side1 ?side2 ?side3 ?side4 A45.out).mono ?_); (case side1 => repeat (first | exact (Kd.R_reads' HO294.out).2.2 | (with_reducible refine Kd.C_alloc ?_ _) | (with_reducible refine Kd.C_drewN ?_ _) | (with_reducible refine Kd.C_drew ?_))); (case side2 => exact (Kd.R_reads' HO294.out).2.1); (case side3 => repeat (first | exact (Kd.R_reads' HO298.out).2.2 | (with_reducible refine Kd.C_alloc ?_ _) | (with_reducible refine Kd.C_drewN ?_ _) | (with_reducible refine Kd.C_drew ?_))); (case side4 => exact (Kd.R_reads' HO298.out).2.1); rintro e w' ⟨rfl, ⟨nd, rfl⟩⟩; (try first | exact ⟨rfl, _, World.drewN_drewN _ _ _⟩ | exact ⟨rfl, _, Eq.trans (World.drewN_drewN _ _ _) (congrArg (World.drewN _) (Nat.add_assoc _ _ _))⟩))))
     as_aux_lemma =>
     go_meet
     case rel => exact ⟨_, ((t280 != true)), (by first | rfl | (simp; done) | (simp [*]; done)), H', ⟨by first | omega | exact Nat.le_refl _⟩, ⟨by (with_reducible repeat (first | apply Kd.R_alloc | apply Kd.R_drewN | apply Kd.R_drew)); exact Kd.R_mono HO286.out (fun _ hk => hk.1.2)⟩, ⟨by (with_reducible repeat (first | apply Kd.R_alloc | apply Kd.R_drewN | apply Kd.R_drew)); exact Kd.R_mono HO294.out (fun _ hk => hk.1.1.2)⟩, ⟨by repeat (first | (with_reducible first | exact HB.out | apply below_alloc | apply pw_below_drewN | apply below_drew1) | exact HB.out)⟩⟩
    ·replace c52 := Bool.eq_false_iff.mpr c52
     subst c52
     have H1 : (if (t272 != false) = true then (none) else (if t284 = true then (laws_FnWheelsTurnOfAll.j0 k l0 a1 t267 t268 t271 t272 false t279 t280 t283 t284 t291 t299 (t280 != true)) else (none))) = some r := by rw [if_neg (show ¬ (false = true) by decide)] at H; exact H
     clear H
     have H := H1
     clear H1
     have c59 : ¬ ((t272 != false) = true) := fun c59 => by
      rw [if_pos c59] at H
      exact absurd H (by simp)
     rw [if_neg c59] at H
     have hT_ : t272 = false := by simpa using c59
     clear c59
     subst hT_
     have c60 : t284 = true := Classical.byContradiction fun c60 => by
      replace c60 := Bool.eq_false_iff.mpr c60
      subst c60
      have H1 : (none) = some r := by rw [if_neg (show ¬ (false = true) by decide)] at H; exact H
      clear H
      have H := H1
      clear H1
      exact absurd H (by simp)
     subst c60
     have H1 : (laws_FnWheelsTurnOfAll.j0 k l0 a1 t267 t268 t271 false false t279 t280 t283 true t291 t299 (t280 != true)) = some r := by rw [if_pos rfl] at H; exact H
     clear H
     have H := H1
     clear H1
     have H' := Aside0.mk H
     clear H
     obtain ⟨Ao61, co61, eo61⟩ := Kd.R_slice HO286.out
     subst eo61
     obtain ⟨Ao62, co62, eo62⟩ := Kd.R_slice HO290.out
     subst eo62
     as_aux_lemma =>
     go_wp2_with (first | (go_at_call 21; (with_reducible refine (laws_gSame.calls k _ _ t283 _ _ t287 true _ ?side1 ?side2 ?side3 ?side4 A42.out).mono ?_); (case side1 => repeat (first | exact (Kd.R_reads' HO286.out).2.2 | (with_reducible refine Kd.C_alloc ?_ _) | (with_reducible refine Kd.C_drewN ?_ _) | (with_reducible refine Kd.C_drew ?_))); (case side2 => exact (Kd.R_reads' HO286.out).2.1); (case side3 => repeat (first | exact (Kd.R_reads' HO290.out).2.2 | (with_reducible refine Kd.C_alloc ?_ _) | (with_reducible refine Kd.C_drewN ?_ _) | (with_reducible refine Kd.C_drew ?_))); (case side4 => exact (Kd.R_reads' HO290.out).2.1); rintro e w' ⟨rfl, ⟨nd, rfl⟩⟩; (try first | exact ⟨rfl, _, World.drewN_drewN _ _ _⟩ | exact ⟨rfl, _, Eq.trans (World.drewN_drewN _ _ _) (congrArg (World.drewN _) (Nat.add_assoc _ _ _))⟩); obtain ⟨Ao63, co63, eo63⟩ := Kd.R_slice HO294.out; subst eo63; obtain ⟨Ao64, co64, eo64⟩ := Kd.R_slice HO298.out; subst eo64))
     as_aux_lemma =>
     go_wp2_with (first | (go_at_call 21; (with_reducible refine (laws_gSame.calls k _ _ t291 _ _ t295 true _ ?side1 ?side2 ?side3 ?side4 A45.out).mono ?_); (case side1 => repeat (first | exact (Kd.R_reads' HO294.out).2.2 | (with_reducible refine Kd.C_alloc ?_ _) | (with_reducible refine Kd.C_drewN ?_ _) | (with_reducible refine Kd.C_drew ?_))); (case side2 => exact (Kd.R_reads' HO294.out).2.1); (case side3 => repeat (first | exact (Kd.R_reads' HO298.out).2.2 | (with_reducible refine Kd.C_alloc ?_ _) | (with_reducible refine Kd.C_drewN ?_ _) | (with_reducible refine Kd.C_drew ?_))); (case side4 => exact (Kd.R_reads' HO298.out).2.1); rintro e w' ⟨rfl, ⟨nd, rfl⟩⟩; (try first | exact ⟨rfl, _, World.drewN_drewN _ _ _⟩ | exact ⟨rfl, _, Eq.trans (World.drewN_drewN _ _ _) (congrArg (World.drewN _) (Nat.add_assoc _ _ _))⟩)))
     repeat (go_quiet (first | (go_at_call 21; (with_reducible refine (laws_gSame.calls k _ _ t283 _ _ t287 true _ ?side1 ?side2 ?side3 ?side4 A42.out).mono ?_); (case side1 => repeat (first | exact (Kd.R_reads' HO286.out).2.2 | (with_reducible refine Kd.C_alloc ?_ _) | (with_reducible refine Kd.C_drewN ?_ _) | (with_reducible refine Kd.C_drew ?_))); (case side2 => exact (Kd.R_reads' HO286.out).2.1); (case side3 => repeat (first | exact (Kd.R_reads' HO290.out).2.2 | (with_reducible refine Kd.C_alloc ?_ _) | (with_reducible refine Kd.C_drewN ?_ _) | (with_reducible refine Kd.C_drew ?_))); (case side4 => exact (Kd.R_reads' HO290.out).2.1); rintro e w' ⟨rfl, ⟨nd, rfl⟩⟩; (try first | exact ⟨rfl, _, World.drewN_drewN _ _ _⟩ | exact ⟨rfl, _, Eq.trans (World.drewN_drewN _ _ _) (congrArg (World.drewN _) (Nat.add_assoc _ _ _))⟩); obtain ⟨Ao63, co63, eo63⟩ := Kd.R_slice HO294.out; subst eo63; obtain ⟨Ao64, co64, eo64⟩ := Kd.R_slice HO298.out; subst eo64) | (go_at_call 21; (with_reducible refine (laws_gSame.calls k _ _ t291 _ _ t295 true _ ?side1 ?side2 ?side3 ?side4 A45.out).mono ?_); (case side1 => repeat (first | exact (Kd.R_reads' HO294.out).2.2 | (with_reducible refine Kd.C_alloc ?_ _) | (with_reducible refine Kd.C_drewN ?_ _) | (with_reducible refine Kd.C_drew ?_))); (case side2 => exact (Kd.R_reads' HO294.out).2.1); (case side3 => repeat (first | exact (Kd.R_reads' HO298.out).2.2 | (with_reducible refine Kd.C_alloc ?_ _) | (with_reducible refine Kd.C_drewN ?_ _) | (with_reducible refine Kd.C_drew ?_))); (case side4 => exact (Kd.R_reads' HO298.out).2.1); rintro e w' ⟨rfl, ⟨nd, rfl⟩⟩; (try first | exact ⟨rfl, _, World.drewN_drewN _ _ _⟩ | exact ⟨rfl, _, Eq.trans (World.drewN_drewN _ _ _) (congrArg (World.drewN _) (Nat.add_assoc _ _ _))⟩))); try go_wp2_with (first | (go_at_call 21; (with_reducible refine (laws_gSame.calls k _ _ t283 _ _ t287 true _ ?side1 ?side2 ?side3 ?side4 A42.out).mono ?_); (case side1 => repeat (first | exact (Kd.R_reads' HO286.out).2.2 | (with_reducible refine Kd.C_alloc ?_ _) | (with_reducible refine Kd.C_drewN ?_ _) | (with_reducible refine Kd.C_drew ?_))); (case side2 => exact (Kd.R_reads' HO286.out).2.1); (case side3 => repeat (first | exact (Kd.R_reads' HO290.out).2.2 | (with_reducible refine Kd.C_alloc ?_ _) | (with_reducible refine Kd.C_drewN ?_ _) | (with_reducible refine Kd.C_drew ?_))); (case side4 => exact (Kd.R_reads' HO290.out).2.1); rintro e w' ⟨rfl, ⟨nd, rfl⟩⟩; (try first | exact ⟨rfl, _, World.drewN_drewN _ _ _⟩ | exact ⟨rfl, _, Eq.trans (World.drewN_drewN _ _ _) (congrArg (World.drewN _) (Nat.add_assoc _ _ _))⟩); obtain ⟨Ao63, co63, eo63⟩ := Kd.R_slice HO294.out; subst eo63; obtain ⟨Ao64, co64, eo64⟩ := Kd.R_slice HO298.out; subst eo64) | (go_at_call 21; (with_reducible refine (laws_gSame.calls k _ _ t291 _ _ t295 true _ ?side1 ?side2 ?side3 ?side4 A45.out).mono ?_); (case side1 => repeat (first | exact (Kd.R_reads' HO294.out).2.2 | (with_reducible refine Kd.C_alloc ?_ _) | (with_reducible refine Kd.C_drewN ?_ _) | (with_reducible refine Kd.C_drew ?_))); (case side2 => exact (Kd.R_reads' HO294.out).2.1); (case side3 => repeat (first | exact (Kd.R_reads' HO298.out).2.2 | (with_reducible refine Kd.C_alloc ?_ _) | (with_reducible refine Kd.C_drewN ?_ _) | (with_reducible refine Kd.C_drew ?_))); (case side4 => exact (Kd.R_reads' HO298.out).2.1); rintro e w' ⟨rfl, ⟨nd, rfl⟩⟩; (try first | exact ⟨rfl, _, World.drewN_drewN _ _ _⟩ | exact ⟨rfl, _, Eq.trans (World.drewN_drewN _ _ _) (congrArg (World.drewN _) (Nat.add_assoc _ _ _))⟩))))
     as_aux_lemma =>
     go_meet
     case rel => exact ⟨_, ((t280 != true)), (by first | rfl | (simp; done) | (simp [*]; done)), H', ⟨by first | omega | exact Nat.le_refl _⟩, ⟨by (with_reducible repeat (first | apply Kd.R_alloc | apply Kd.R_drewN | apply Kd.R_drew)); exact Kd.R_mono HO286.out (fun _ hk => hk.1.2)⟩, ⟨by (with_reducible repeat (first | apply Kd.R_alloc | apply Kd.R_drewN | apply Kd.R_drew)); exact Kd.R_mono HO294.out (fun _ hk => hk.1.1.2)⟩, ⟨by repeat (first | (with_reducible first | exact HB.out | apply below_alloc | apply pw_below_drewN | apply below_drew1) | exact HB.out)⟩⟩
   ·replace c51 := Bool.eq_false_iff.mpr c51
    subst c51
    have H1 : (if (t272 != false) = true then (none) else (laws_FnWheelsTurnOfAll.j0 k l0 a1 t267 t268 t271 t272 t275 t279 t280 t283 t284 t291 t299 (t280 != false))) = some r := by rw [if_neg (show ¬ (false = true) by decide)] at H; exact H
    clear H
    have H := H1
    clear H1
    have c65 : ¬ ((t272 != false) = true) := fun c65 => by
     rw [if_pos c65] at H
     exact absurd H (by simp)
    rw [if_neg c65] at H
    have hT_ : t272 = false := by simpa using c65
    clear c65
    subst hT_
    have H' := Aside0.mk H
    clear H
    obtain ⟨Ao66, co66, eo66⟩ := Kd.R_slice HO286.out
    subst eo66
    obtain ⟨Ao67, co67, eo67⟩ := Kd.R_slice HO290.out
    subst eo67
    as_aux_lemma =>
    go_wp2_with (first | (go_at_call 21; (with_reducible refine (laws_gSame.calls k _ _ t283 _ _ t287 true _ ?side1 ?side2 ?side3 ?side4 A42.out).mono ?_); (case side1 => repeat (first | exact (Kd.R_reads' HO286.out).2.2 | (with_reducible refine Kd.C_alloc ?_ _) | (with_reducible refine Kd.C_drewN ?_ _) | (with_reducible refine Kd.C_drew ?_))); (case side2 => exact (Kd.R_reads' HO286.out).2.1); (case side3 => repeat (first | exact (Kd.R_reads' HO290.out).2.2 | (with_reducible refine Kd.C_alloc ?_ _) | (with_reducible refine Kd.C_drewN ?_ _) | (with_reducible refine Kd.C_drew ?_))); (case side4 => exact (Kd.R_reads' HO290.out).2.1); rintro e w' ⟨rfl, ⟨nd, rfl⟩⟩; (try first | exact ⟨rfl, _, World.drewN_drewN _ _ _⟩ | exact ⟨rfl, _, Eq.trans (World.drewN_drewN _ _ _) (congrArg (World.drewN _) (Nat.add_assoc _ _ _))⟩); obtain ⟨Ao68, co68, eo68⟩ := Kd.R_slice HO294.out; subst eo68; obtain ⟨Ao69, co69, eo69⟩ := Kd.R_slice HO298.out; subst eo69))
    as_aux_lemma =>
    go_wp2_with (first | (go_at_call 21; (with_reducible refine (laws_gSame.calls k _ _ t291 _ _ t295 true _ ?side1 ?side2 ?side3 ?side4 A45.out).mono ?_); (case side1 => repeat (first | exact (Kd.R_reads' HO294.out).2.2 | (with_reducible refine Kd.C_alloc ?_ _) | (with_reducible refine Kd.C_drewN ?_ _) | (with_reducible refine Kd.C_drew ?_))); (case side2 => exact (Kd.R_reads' HO294.out).2.1); (case side3 => repeat (first | exact (Kd.R_reads' HO298.out).2.2 | (with_reducible refine Kd.C_alloc ?_ _) | (with_reducible refine Kd.C_drewN ?_ _) | (with_reducible refine Kd.C_drew ?_))); (case side4 => exact (Kd.R_reads' HO298.out).2.1); rintro e w' ⟨rfl, ⟨nd, rfl⟩⟩; (try first | exact ⟨rfl, _, World.drewN_drewN _ _ _⟩ | exact ⟨rfl, _, Eq.trans (World.drewN_drewN _ _ _) (congrArg (World.drewN _) (Nat.add_assoc _ _ _))⟩)))
    repeat (go_quiet (first | (go_at_call 21; (with_reducible refine (laws_gSame.calls k _ _ t283 _ _ t287 true _ ?side1 ?side2 ?side3 ?side4 A42.out).mono ?_); (case side1 => repeat (first | exact (Kd.R_reads' HO286.out).2.2 | (with_reducible refine Kd.C_alloc ?_ _) | (with_reducible refine Kd.C_drewN ?_ _) | (with_reducible refine Kd.C_drew ?_))); (case side2 => exact (Kd.R_reads' HO286.out).2.1); (case side3 => repeat (first | exact (Kd.R_reads' HO290.out).2.2 | (with_reducible refine Kd.C_alloc ?_ _) | (with_reducible refine Kd.C_drewN ?_ _) | (with_reducible refine Kd.C_drew ?_))); (case side4 => exact (Kd.R_reads' HO290.out).2.1); rintro e w' ⟨rfl, ⟨nd, rfl⟩⟩; (try first | exact ⟨rfl, _, World.drewN_drewN _ _ _⟩ | exact ⟨rfl, _, Eq.trans (World.drewN_drewN _ _ _) (congrArg (World.drewN _) (Nat.add_assoc _ _ _))⟩); obtain ⟨Ao68, co68, eo68⟩ := Kd.R_slice HO294.out; subst eo68; obtain ⟨Ao69, co69, eo69⟩ := Kd.R_slice HO298.out; subst eo69) | (go_at_call 21; (with_reducible refine (laws_gSame.calls k _ _ t291 _ _ t295 true _ ?side1 ?side2 ?side3 ?side4 A45.out).mono ?_); (case side1 => repeat (first | exact (Kd.R_reads' HO294.out).2.2 | (with_reducible refine Kd.C_alloc ?_ _) | (with_reducible refine Kd.C_drewN ?_ _) | (with_reducible refine Kd.C_drew ?_))); (case side2 => exact (Kd.R_reads' HO294.out).2.1); (case side3 => repeat (first | exact (Kd.R_reads' HO298.out).2.2 | (with_reducible refine Kd.C_alloc ?_ _) | (with_reducible refine Kd.C_drewN ?_ _) | (with_reducible refine Kd.C_drew ?_))); (case side4 => exact (Kd.R_reads' HO298.out).2.1); rintro e w' ⟨rfl, ⟨nd, rfl⟩⟩; (try first | exact ⟨rfl, _, World.drewN_drewN _ _ _⟩ | exact ⟨rfl, _, Eq.trans (World.drewN_drewN _ _ _) (congrArg (World.drewN _) (Nat.add_assoc _ _ _))⟩))); try go_wp2_with (first | (go_at_call 21; (with_reducible refine (laws_gSame.calls k _ _ t283 _ _ t287 true _ ?side1 ?side2 ?side3 ?side4 A42.out).mono ?_); (case side1 => repeat (first | exact (Kd.R_reads' HO286.out).2.2 | (with_reducible refine Kd.C_alloc ?_ _) | (with_reducible refine Kd.C_drewN ?_ _) | (with_reducible refine Kd.C_drew ?_))); (case side2 => exact (Kd.R_reads' HO286.out).2.1); (case side3 => repeat (first | exact (Kd.R_reads' HO290.out).2.2 | (with_reducible refine Kd.C_alloc ?_ _) | (with_reducible refine Kd.C_drewN ?_ _) | (with_reducible refine Kd.C_drew ?_))); (case side4 => exact (Kd.R_reads' HO290.out).2.1); rintro e w' ⟨rfl, ⟨nd, rfl⟩⟩; (try first | exact ⟨rfl, _, World.drewN_drewN _ _ _⟩ | exact ⟨rfl, _, Eq.trans (World.drewN_drewN _ _ _) (congrArg (World.drewN _) (Nat.add_assoc _ _ _))⟩); obtain ⟨Ao68, co68, eo68⟩ := Kd.R_slice HO294.out; subst eo68; obtain ⟨Ao69, co69, eo69⟩ := Kd.R_slice HO298.out; subst eo69) | (go_at_call 21; (with_reducible refine (laws_gSame.calls k _ _ t291 _ _ t295 true _ ?side1 ?side2 ?side3 ?side4 A45.out).mono ?_); (case side1 => repeat (first | exact (Kd.R_reads' HO294.out).2.2 | (with_reducible refine Kd.C_alloc ?_ _) | (with_reducible refine Kd.C_drewN ?_ _) | (with_reducible refine Kd.C_drew ?_))); (case side2 => exact (Kd.R_reads' HO294.out).2.1); (case side3 => repeat (first | exact (Kd.R_reads' HO298.out).2.2 | (with_reducible refine Kd.C_alloc ?_ _) | (with_reducible refine Kd.C_drewN ?_ _) | (with_reducible refine Kd.C_drew ?_))); (case side4 => exact (Kd.R_reads' HO298.out).2.1); rintro e w' ⟨rfl, ⟨nd, rfl⟩⟩; (try first | exact ⟨rfl, _, World.drewN_drewN _ _ _⟩ | exact ⟨rfl, _, Eq.trans (World.drewN_drewN _ _ _) (congrArg (World.drewN _) (Nat.add_assoc _ _ _))⟩))))
    as_aux_lemma =>
    go_meet
    case rel => exact ⟨_, ((t280 != false)), (by first | rfl | (simp; done) | (simp [*]; done)), H', ⟨by first | omega | exact Nat.le_refl _⟩, ⟨by (with_reducible repeat (first | apply Kd.R_alloc | apply Kd.R_drewN | apply Kd.R_drew)); exact Kd.R_mono HO286.out (fun _ hk => hk.1.2)⟩, ⟨by (with_reducible repeat (first | apply Kd.R_alloc | apply Kd.R_drewN | apply Kd.R_drew)); exact Kd.R_mono HO294.out (fun _ hk => hk.1.1.2)⟩, ⟨by repeat (first | (with_reducible first | exact HB.out | apply below_alloc | apply pw_below_drewN | apply below_drew1) | exact HB.out)⟩⟩
  case rest =>
   as_aux_lemma =>
   clear HC18
   try clear p2
   try clear c3
   try clear c3b0
   try clear c3b1
   try clear c4
   try clear c5
   try clear c6
   try clear c33
   try clear c33b0
   try clear c33b1
   try clear c33b2
   try clear c34
   try clear c34b0
   try clear c34b1
   try clear c35
   try clear c35b0
   try clear c35b1
   try clear c35b2
   try clear c36
   try clear c36b0
   try clear c36b1
   try clear c37
   try clear c37b0
   try clear c37b1
   try clear c37b2
   try clear c38
   try clear c38b0
   try clear c38b1
   try clear c38b2
   try clear c39
   try clear c39b0
   try clear c39b1
   try clear c39b2
   try clear c40
   try clear c40b0
   try clear c40b1
   try clear c41
   try clear c41b0
   try clear c41b1
   try clear c41b2
   try clear c43
   try clear c44
   try clear c44b0
   try clear c44b1
   try clear c44b2
   try clear c46
   try clear c47
   try clear c47b0
   try clear c47b1
   try clear c47b2
   try clear c48
   try clear c48b0
   try clear c48b1
   try clear c49
   try clear c49b0
   try clear c49b1
   try clear c49b2
   try clear c50
   try clear c50b0
   try clear c50b1
   try clear c50b2
   try clear c51
   try clear c52
   try clear c53
   try clear c53b0
   try clear c53b1
   try clear c53b2
   try clear c54
   try clear c59
   try clear c59b0
   try clear c59b1
   try clear c59b2
   try clear c60
   try clear c65
   try clear c65b0
   try clear c65b1
   try clear c65b2
   obtain ⟨kq, x234_17, rfl, HA, HJ17, HO_21, HO_25, HB⟩ := hcut
   cases kq with
   | zero => exact absurd HA.out (by simp [laws_FnWheelsTurnOfAll.j0])
   | succ kj17 =>
    have H := HA.out
    clear HA
    simp only [laws_FnWheelsTurnOfAll.j0] at H
    have c70 : ¬ (x234_17 = true) := fun c70 => by
     subst c70
     have H1 : (none) = some r := by rw [if_pos rfl] at H; exact H
     clear H
     have H := H1
     clear H1
     exact absurd H (by simp)
    replace c70 := Bool.eq_false_iff.mpr c70
    subst c70
    have H1 : (if t284 = true then ((impl_PeriodOfRules.f kj17 l0).bind fun bt305 => ((impl_LeftInPeriod.f kj17 l0).bind fun bt307 => (if bt305.2 = true then (if bt307.2 = true then (if bt307.1 = t299 then (if (t283.length : Int) = t299 then (if (t291.length : Int) = t299 then ((laws_gSum.f kj17 t291).bind fun t309 => (if t309 = bt305.1 then (if t299 < 1 then (none) else (laws_FnWheelsTurnOfAll.l0 kj17 l0 a1 t267 t268 t271 t272 t275 t279 t280 t283 t291 bt305.1 t283 (t283.length : Int) 0)) else (none))) else (none)) else (none)) else (none)) else (none)) else (none)))) else (some true)) = some r := by rw [if_neg (show ¬ (false = true) by decide)] at H; exact H
    clear H
    have H := H1
    clear H1
    by_cases c71 : t284 = true
    ·subst c71
     have H1 : ((impl_PeriodOfRules.f kj17 l0).bind fun bt305 => ((impl_LeftInPeriod.f kj17 l0).bind fun bt307 => (if bt305.2 = true then (if bt307.2 = true then (if bt307.1 = t299 then (if (t283.length : Int) = t299 then (if (t291.length : Int) = t299 then ((laws_gSum.f kj17 t291).bind fun t309 => (if t309 = bt305.1 then (if t299 < 1 then (none) else (laws_FnWheelsTurnOfAll.l0 kj17 l0 a1 t267 t268 t271 t272 t275 t279 t280 t283 t291 bt305.1 t283 (t283.length : Int) 0)) else (none))) else (none)) else (none)) else (none)) else (none)) else (none)))) = some r := by rw [if_pos rfl] at H; exact H
     clear H
     have H := H1
     clear H1
     replace H := Option.bind_eq_some_iff.mp H
     obtain ⟨⟨t305, t306⟩, A720, H⟩ := H
     replace H : ((impl_LeftInPeriod.f kj17 l0).bind fun bt307 => (if t306 = true then (if bt307.2 = true then (if bt307.1 = t299 then (if (t283.length : Int) = t299 then (if (t291.length : Int) = t299 then ((laws_gSum.f kj17 t291).bind fun t309 => (if t309 = t305 then (if t299 < 1 then (none) else (laws_FnWheelsTurnOfAll.l0 kj17 l0 a1 t267 t268 t271 t272 t275 t279 t280 t283 t291 t305 t283 (t283.length : Int) 0)) else (none))) else (none)) else (none)) else (none)) else (none)) else (none))) = some r := H
     have A72 := Aside0.mk A720
     clear A720
     replace H := Option.bind_eq_some_iff.mp H
     obtain ⟨⟨t307, t308⟩, A730, H⟩ := H
     replace H : (if t306 = true then (if t308 = true then (if t307 = t299 then (if (t283.length : Int) = t299 then (if (t291.length : Int) = t299 then ((laws_gSum.f kj17 t291).bind fun t309 => (if t309 = t305 then (if t299 < 1 then (none) else (laws_FnWheelsTurnOfAll.l0 kj17 l0 a1 t267 t268 t271 t272 t275 t279 t280 t283 t291 t305 t283 (t283.length : Int) 0)) else (none))) else (none)) else (none)) else (none)) else (none)) else (none)) = some r := H
     have A73 := Aside0.mk A730
     clear A730
     have c74 : t306 = true := Classical.byContradiction fun c74 => by
      replace c74 := Bool.eq_false_iff.mpr c74
      subst c74
      have H1 : (none) = some r := by rw [if_neg (show ¬ (false = true) by decide)] at H; exact H
      clear H
      have H := H1
      clear H1
      exact absurd H (by simp)
     subst c74
     have H1 : (if t308 = true then (if t307 = t299 then (if (t283.length : Int) = t299 then (if (t291.length : Int) = t299 then ((laws_gSum.f kj17 t291).bind fun t309 => (if t309 = t305 then (if t299 < 1 then (none) else (laws_FnWheelsTurnOfAll.l0 kj17 l0 a1 t267 t268 t271 t272 t275 t279 t280 t283 t291 t305 t283 (t283.length : Int) 0)) else (none))) else (none)) else (none)) else (none)) else (none)) = some r := by rw [if_pos rfl] at H; exact H
     clear H
     have H := H1
     clear H1
     have c75 : t308 = true := Classical.byContradiction fun c75 => by
      replace c75 := Bool.eq_false_iff.mpr c75
      subst c75
      have H1 : (none) = some r := by rw [if_neg (show ¬ (false = true) by decide)] at H; exact H
      clear H
      have H := H1
      clear H1
      exact absurd H (by simp)
     subst c75
     have H1 : (if t307 = t299 then (if (t283.length : Int) = t299 then (if (t291.length : Int) = t299 then ((laws_gSum.f kj17 t291).bind fun t309 => (if t309 = t305 then (if t299 < 1 then (none) else (laws_FnWheelsTurnOfAll.l0 kj17 l0 a1 t267 t268 t271 t272 t275 t279 t280 t283 t291 t305 t283 (t283.length : Int) 0)) else (none))) else (none)) else (none)) else (none)) = some r := by rw [if_pos rfl] at H; exact H
     clear H
     have H := H1
     clear H1
     have c76 : t307 = t299 := Classical.byContradiction fun c76 => by
      rw [if_neg c76] at H
      exact absurd H (by simp)
     rw [if_pos c76] at H
     have c76b0 : (t307 == t299) = true := beq_iff_eq.mpr c76
     have c76b1 : (t307 != t299) = false := bne_eq_false_iff_eq.mpr c76
     clear c76
     have c77 : (t283.length : Int) = t299 := Classical.byContradiction fun c77 => by
      rw [if_neg c77] at H
      exact absurd H (by simp)
     rw [if_pos c77] at H
     have c77b0 : ((t283.length : Int) == t299) = true := beq_iff_eq.mpr c77
     have c77b1 : ((t283.length : Int) != t299) = false := bne_eq_false_iff_eq.mpr c77
     clear c77
     have c78 : (t291.length : Int) = t299 := Classical.byContradiction fun c78 => by
      rw [if_neg c78] at H
      exact absurd H (by simp)
     rw [if_pos c78] at H
     have c78b0 : ((t291.length : Int) == t299) = true := beq_iff_eq.mpr c78
     have c78b1 : ((t291.length : Int) != t299) = false := bne_eq_false_iff_eq.mpr c78
     clear c78
     replace H := Option.bind_eq_some_iff.mp H
     obtain ⟨t309, A790, H⟩ := H
     replace H : (if t309 = t305 then (if t299 < 1 then (none) else (laws_FnWheelsTurnOfAll.l0 kj17 l0 a1 t267 t268 t271 t272 t275 t279 t280 t283 t291 t305 t283 (t283.length : Int) 0)) else (none)) = some r := H
     have A79 := Aside0.mk A790
     clear A790
     have c80 : t309 = t305 := Classical.byContradiction fun c80 => by
      rw [if_neg c80] at H
      exact absurd H (by simp)
     rw [if_pos c80] at H
     have c80b0 : (t309 == t305) = true := beq_iff_eq.mpr c80
     have c80b1 : (t309 != t305) = false := bne_eq_false_iff_eq.mpr c80
     clear c80
     have c81 : ¬ (t299 < 1) := fun c81 => by
      rw [if_pos c81] at H
      exact absurd H (by simp)
     rw [if_neg c81] at H
     have c81b0 : decide (t299 < 1) = false := decide_eq_false c81
     clear c81
     have H' := Aside0.mk H
     clear H
     as_aux_lemma =>
     go_wp2_with (first | (go_at_call 22; (with_reducible refine (impl_PeriodOfRules.calls kj17 _ _ l0 t305 true _ ?side1 ?side2 A72.out).mono ?_); (case side1 => repeat (first | exact (Kd.C_below HR0.out HB.out) | (with_reducible refine Kd.C_alloc ?_ _) | (with_reducible refine Kd.C_drewN ?_ _) | (with_reducible refine Kd.C_drew ?_))); (case side2 => exact HC0.out); rintro e w82 ⟨rfl, hb⟩; have n0_ := Aside0.mk (Kd.R_below (by (with_reducible repeat (first | apply Kd.R_alloc | apply Kd.R_drewN | apply Kd.R_drew)); exact HO_21.out) hb); have n1_ := Aside0.mk (Kd.R_below (by (with_reducible repeat (first | apply Kd.R_alloc | apply Kd.R_drewN | apply Kd.R_drew)); exact HO_25.out) hb); have n2_ := Aside0.mk (below_step (by repeat (first | (with_reducible first | exact HB.out | apply below_alloc | apply pw_below_drewN | apply below_drew1) | exact HB.out)) hb); clear HO_21; clear HO_25; clear HB; have HO_21 := n0_; have HO_25 := n1_; have HB := n2_; clear n0_ n1_ n2_; (try clear hb); (try clear hb2); (try clear hk); (try clear hi)))
     as_aux_lemma =>
     go_wp2_with (first | (go_at_call 23; (with_reducible refine (impl_LeftInPeriod.calls kj17 _ _ l0 t307 true _ ?side1 ?side2 A73.out).mono ?_); (case side1 => repeat (first | exact (Kd.C_below HR0.out HB.out) | (with_reducible refine Kd.C_alloc ?_ _) | (with_reducible refine Kd.C_drewN ?_ _) | (with_reducible refine Kd.C_drew ?_))); (case side2 => exact HC0.out); rintro e w83 ⟨rfl, hb⟩; have n0_ := Aside0.mk (Kd.R_below (by (with_reducible repeat (first | apply Kd.R_alloc | apply Kd.R_drewN | apply Kd.R_drew)); exact HO_21.out) hb); have n1_ := Aside0.mk (Kd.R_below (by (with_reducible repeat (first | apply Kd.R_alloc | apply Kd.R_drewN | apply Kd.R_drew)); exact HO_25.out) hb); have n2_ := Aside0.mk (below_step (by repeat (first | (with_reducible first | exact HB.out | apply below_alloc | apply pw_below_drewN | apply below_drew1) | exact HB.out)) hb); clear HO_21; clear HO_25; clear HB; have HO_21 := n0_; have HO_25 := n1_; have HB := n2_; clear n0_ n1_ n2_; (try clear hb); (try clear hb2); (try clear hk); (try clear hi); obtain ⟨Ao84, co84, eo84⟩ := Kd.R_slice HO_21.out; subst eo84; obtain ⟨Ao85, co85, eo85⟩ := Kd.R_slice HO_25.out; subst eo85))
     as_aux_lemma =>
     go_wp2_with (first | (go_at_call 24; (with_reducible refine (laws_gSum.calls kj17 _ _ t291 t309 _ ?side1 ?side2 A79.out).mono ?_); (case side1 => repeat (first | exact (Kd.R_reads' HO_25.out).2.2 | (with_reducible refine Kd.C_alloc ?_ _) | (with_reducible refine Kd.C_drewN ?_ _) | (with_reducible refine Kd.C_drew ?_))); (case side2 => exact (Kd.R_reads' HO_25.out).2.1); rintro e w' ⟨rfl, ⟨nd, rfl⟩⟩; (try first | exact ⟨rfl, _, World.drewN_drewN _ _ _⟩ | exact ⟨rfl, _, Eq.trans (World.drewN_drewN _ _ _) (congrArg (World.drewN _) (Nat.add_assoc _ _ _))⟩)))
     repeat (go_quiet (first | (go_at_call 22; (with_reducible refine (impl_PeriodOfRules.calls kj17 _ _ l0 t305 true _ ?side1 ?side2 A72.out).mono ?_); (case side1 => repeat (first | exact (Kd.C_below HR0.out HB.out) | (with_reducible refine Kd.C_alloc ?_ _) | (with_reducible refine Kd.C_drewN ?_ _) | (with_reducible refine Kd.C_drew ?_))); (case side2 => exact HC0.out); rintro e w82 ⟨rfl, hb⟩; have n0_ := Aside0.mk (Kd.R_below (by (with_reducible repeat (first | apply Kd.R_alloc | apply Kd.R_drewN | apply Kd.R_drew)); exact HO_21.out) hb); have n1_ := Aside0.mk (Kd.R_below (by (with_reducible repeat (first | apply Kd.R_alloc | apply Kd.R_drewN | apply Kd.R_drew)); exact HO_25.out) hb); have n2_ := Aside0.mk (below_step (by repeat (first | (with_reducible first | exact HB.out | apply below_alloc | apply pw_below_drewN | apply below_drew1) | exact HB.out)) hb); clear HO_21; clear HO_25; clear HB; have HO_21 := n0_; have HO_25 := n1_; have HB := n2_; clear n0_ n1_ n2_; (try clear hb); (try clear hb2); (try clear hk); (try clear hi)) | (go_at_call 23; (with_reducible refine (impl_LeftInPeriod.calls kj17 _ _ l0 t307 true _ ?side1 ?side2 A73.out).mono ?_); (case side1 => repeat (first | exact (Kd.C_below HR0.out HB.out) | (with_reducible refine Kd.C_alloc ?_ _) | (with_reducible refine Kd.C_drewN ?_ _) | (with_reducible refine Kd.C_drew ?_))); (case side2 => exact HC0.out); rintro e w83 ⟨rfl, hb⟩; have n0_ := Aside0.mk (Kd.R_below (by (with_reducible repeat (first | apply Kd.R_alloc | apply Kd.R_drewN | apply Kd.R_drew)); exact HO_21.out) hb); have n1_ := Aside0.mk (Kd.R_below (by (with_reducible repeat (first | apply Kd.R_alloc | apply Kd.R_drewN | apply Kd.R_drew)); exact HO_25.out) hb); have n2_ := Aside0.mk (below_step (by repeat (first | (with_reducible first | exact HB.out | apply below_alloc | apply pw_below_drewN | apply below_drew1) | exact HB.out)) hb); clear HO_21; clear HO_25; clear HB; have HO_21 := n0_; have HO_25 := n1_; have HB := n2_; clear n0_ n1_ n2_; (try clear hb); (try clear hb2); (try clear hk); (try clear hi); obtain ⟨Ao84, co84, eo84⟩ := Kd.R_slice HO_21.out; subst eo84; obtain ⟨Ao85, co85, eo85⟩ := Kd.R_slice HO_25.out; subst eo85) | (go_at_call 24; (with_reducible refine (laws_gSum.calls kj17 _ _ t291 t309 _ ?side1 ?side2 A79.out).mono ?_); (case side1 => repeat (first | exact (Kd.R_reads' HO_25.out).2.2 | (with_reducible refine Kd.C_alloc ?_ _) | (with_reducible refine Kd.C_drewN ?_ _) | (with_reducible refine Kd.C_drew ?_))); (case side2 => exact (Kd.R_reads' HO_25.out).2.1); rintro e w' ⟨rfl, ⟨nd, rfl⟩⟩; (try first | exact ⟨rfl, _, World.drewN_drewN _ _ _⟩ | exact ⟨rfl, _, Eq.trans (World.drewN_drewN _ _ _) (congrArg (World.drewN _) (Nat.add_assoc _ _ _))⟩))); try go_wp2_with (first | (go_at_call 22; (with_reducible refine (impl_PeriodOfRules.calls kj17 _ _ l0 t305 true _ ?side1 ?side2 A72.out).mono ?_); (case side1 => repeat (first | exact (Kd.C_below HR0.out HB.out) | (with_reducible refine Kd.C_alloc ?_ _) | (with_reducible refine Kd.C_drewN ?_ _) | (with_reducible refine Kd.C_drew ?_))); (case side2 => exact HC0.out); rintro e w82 ⟨rfl, hb⟩; have n0_ := Aside0.mk (Kd.R_below (by (with_reducible repeat (first | apply Kd.R_alloc | apply Kd.R_drewN | apply Kd.R_drew)); exact HO_21.out) hb); have n1_ := Aside0.mk (Kd.R_below (by (with_reducible repeat (first | apply Kd.R_alloc | apply Kd.R_drewN | apply Kd.R_drew)); exact HO_25.out) hb); have n2_ := Aside0.mk (below_step (by repeat (first | (with_reducible first | exact HB.out | apply below_alloc | apply pw_below_drewN | apply below_drew1) | exact HB.out)) hb); clear HO_21; clear HO_25; clear HB; have HO_21 := n0_; have HO_25 := n1_; have HB := n2_; clear n0_ n1_ n2_; (try clear hb); (try clear hb2); (try clear hk); (try clear hi)) | (go_at_call 23; (with_reducible refine (impl_LeftInPeriod.calls kj17 _ _ l0 t307 true _ ?side1 ?side2 A73.out).mono ?_); (case side1 => repeat (first | exact (Kd.C_below HR0.out HB.out) | (with_reducible refine Kd.C_alloc ?_ _) | (with_reducible refine Kd.C_drewN ?_ _) | (with_reducible refine Kd.C_drew ?_))); (case side2 => exact HC0.out); rintro e w83 ⟨rfl, hb⟩; have n0_ := Aside0.mk (Kd.R_below (by (with_reducible repeat (first | apply Kd.R_alloc | apply Kd.R_drewN | apply Kd.R_drew)); exact HO_21.out) hb); have n1_ := Aside0.mk (Kd.R_below (by (with_reducible repeat (first | apply Kd.R_alloc | apply Kd.R_drewN | apply Kd.R_drew)); exact HO_25.out) hb); have n2_ := Aside0.mk (below_step (by repeat (first | (with_reducible first | exact HB.out | apply below_alloc | apply pw_below_drewN | apply below_drew1) | exact HB.out)) hb); clear HO_21; clear HO_25; clear HB; have HO_21 := n0_; have HO_25 := n1_; have HB := n2_; clear n0_ n1_ n2_; (try clear hb); (try clear hb2); (try clear hk); (try clear hi); obtain ⟨Ao84, co84, eo84⟩ := Kd.R_slice HO_21.out; subst eo84; obtain ⟨Ao85, co85, eo85⟩ := Kd.R_slice HO_25.out; subst eo85) | (go_at_call 24; (with_reducible refine (laws_gSum.calls kj17 _ _ t291 t309 _ ?side1 ?side2 A79.out).mono ?_); (case side1 => repeat (first | exact (Kd.R_reads' HO_25.out).2.2 | (with_reducible refine Kd.C_alloc ?_ _) | (with_reducible refine Kd.C_drewN ?_ _) | (with_reducible refine Kd.C_drew ?_))); (case side2 => exact (Kd.R_reads' HO_25.out).2.1); rintro e w' ⟨rfl, ⟨nd, rfl⟩⟩; (try first | exact ⟨rfl, _, World.drewN_drewN _ _ _⟩ | exact ⟨rfl, _, Eq.trans (World.drewN_drewN _ _ _) (congrArg (World.drewN _) (Nat.add_assoc _ _ _))⟩))))
     as_aux_lemma =>
     go_loopg [282] kj17 (fun kq v282 w' => ∃ (x282_2 : Int), v282 = .int .i64 x282_2 ∧ Aside0 (laws_FnWheelsTurnOfAll.l0 kq l0 a1 t267 t268 t271 t272 t275 t279 t280 t283 t291 t305 t283 (t283.length : Int) x282_2 = some r) ∧ Aside0 (kq ≤ kj17) ∧ Aside0 (Kd.R (Kd.int .i64) 3 w' w.heap.size (fun k_ => some k_ ≠ ((.slice Ao85 t291.length co85) : Value).ownBlock) (.slice Ao84 t283.length co84) t283) ∧ Aside0 (Kd.R (Kd.int .i64) 3 w' w.heap.size (fun k_ => some k_ ≠ ((.slice Ao84 t283.length co84) : Value).ownBlock ∧ some k_ ≠ ((.slice Ao84 t283.length co84) : Value).ownBlock) (.slice Ao85 t291.length co85) t291) ∧ Aside0 (Kd.R (Kd.int .i64) 3 w' w.heap.size (fun k_ => some k_ ≠ ((.slice Ao85 t291.length co85) : Value).ownBlock) (.slice Ao84 t283.length co84) t283) ∧ Aside0 (Below w.heap.size w w'))
     case atStart => exact ⟨(0), (by first | rfl | (simp; done) | (simp [*]; done)), H', ⟨Nat.le_refl _⟩, ⟨by (with_reducible repeat (first | apply Kd.R_alloc | apply Kd.R_drewN | apply Kd.R_drew)); exact HO_21.out⟩, ⟨by (with_reducible repeat (first | apply Kd.R_alloc | apply Kd.R_drewN | apply Kd.R_drew)); exact Kd.R_mono HO_25.out (fun _ hk => ⟨hk, hk⟩)⟩, ⟨by (with_reducible repeat (first | apply Kd.R_alloc | apply Kd.R_drewN | apply Kd.R_drew)); exact HO_21.out⟩, ⟨by repeat (first | (with_reducible first | exact HB.out | apply below_alloc | apply pw_below_drewN | apply below_drew1) | exact HB.out)⟩⟩
     case round =>
      as_aux_lemma =>
      clear H'
      try clear p2
      try clear c3
      try clear c3b0
      try clear c3b1
      try clear c4
      try clear c5
      try clear c6
      try clear c7
      try clear c8
      try clear c33
      try clear c33b0
      try clear c33b1
      try clear c33b2
      try clear c34
      try clear c34b0
      try clear c34b1
      try clear c35
      try clear c35b0
      try clear c35b1
      try clear c35b2
      try clear c36
      try clear c36b0
      try clear c36b1
      try clear c37
      try clear c37b0
      try clear c37b1
      try clear c37b2
      try clear c38
      try clear c38b0
      try clear c38b1
      try clear c38b2
      try clear c39
      try clear c39b0
      try clear c39b1
      try clear c39b2
      try clear c40
      try clear c40b0
      try clear c40b1
      try clear c41
      try clear c41b0
      try clear c41b1
      try clear c41b2
      try clear c43
      try clear c44
      try clear c44b0
      try clear c44b1
      try clear c44b2
      try clear c46
      try clear c47
      try clear c47b0
      try clear c47b1
      try clear c47b2
      try clear c48
      try clear c48b0
      try clear c48b1
      try clear c49
      try clear c49b0
      try clear c49b1
      try clear c49b2
      try clear c50
      try clear c50b0
      try clear c50b1
      try clear c50b2
      try clear c51
      try clear c52
      try clear c53
      try clear c53b0
      try clear c53b1
      try clear c53b2
      try clear c54
      try clear c59
      try clear c59b0
      try clear c59b1
      try clear c59b2
      try clear c60
      try clear c65
      try clear c65b0
      try clear c65b1
      try clear c65b2
      try clear c70
      try clear c71
      try clear c74
      try clear c75
      try clear c76
      try clear c76b0
      try clear c76b1
      try clear c77
      try clear c77b0
      try clear c77b1
      try clear c78
      try clear c78b0
      try clear c78b1
      try clear c80
      try clear c80b0
      try clear c80b1
      try clear c81
      try clear c81b0
      try clear p2
      obtain ⟨x282_2, rfl, HA, HK2, HO_21, HO_25, HO_280, HB⟩ := hrel
      cases gk with
      | zero => exact absurd HA.out (by simp [laws_FnWheelsTurnOfAll.l0])
      | succ k2 =>
       have H := HA.out
       clear HA
       simp only [laws_FnWheelsTurnOfAll.l0] at H
       by_cases c86 : x282_2 < (t283.length : Int)
       ·as_aux_lemma =>
        rw [if_pos c86] at H
        have c86b0 : decide (x282_2 < (t283.length : Int)) = true := decide_eq_true c86
        clear c86
        have c87 : 0 ≤ x282_2 := Classical.byContradiction fun c87 => by
         rw [if_neg c87] at H
         exact absurd H (by simp)
        rw [if_pos c87] at H
        have c87b0 : decide (0 ≤ x282_2) = true := decide_eq_true c87
        clear c87
        have c88 : x282_2 < (t283.length : Int) := Classical.byContradiction fun c88 => by
         rw [if_neg c88] at H
         exact absurd H (by simp)
        rw [if_pos c88] at H
        have c88b0 : decide (x282_2 < (t283.length : Int)) = true := decide_eq_true c88
        clear c88
        have HC89 := Aside0.mk H
        clear H
        have p310 : 0 ≤ (x282_2 : Int) := of_decide_eq_true (by first | (with_reducible assumption) | assumption)
        have q310 : x282_2 < (t283.length : Int) := of_decide_eq_true (by first | (with_reducible assumption) | assumption)
        obtain ⟨ad310, e310, hx310_0⟩ := Kd.at_int (Kd.R_reads' HO_280.out).2.2 x282_2 p310 q310
        cases e310
        replace p310 := eq_true p310
        replace q310 := eq_true q310
        as_aux_lemma =>
        go_upto_region 28 with (fail)
        repeat (go_quiet (fail); go_upto_region 28 with (fail))
        go_cut [312] from 9999 to 9999 (fun v312 wc => ∃ (kq : Nat) (x312_88 : Bool), v312 = .bool x312_88 ∧ Aside0 (laws_FnWheelsTurnOfAll.j2 kq l0 a1 t267 t268 t271 t272 t275 t279 t280 t283 t291 t305 (rd t283 x282_2) t283 (t283.length : Int) x282_2 x312_88 = some r) ∧ Aside0 (kq ≤ k2) ∧ Aside0 (Kd.R (Kd.int .i64) 3 wc w.heap.size (fun k_ => some k_ ≠ ((.slice Ao85 t291.length co85) : Value).ownBlock) (.slice (some ad310) t283.length co84) t283) ∧ Aside0 (Kd.R (Kd.int .i64) 3 wc w.heap.size (fun k_ => some k_ ≠ ((.slice (some ad310) t283.length co84) : Value).ownBlock ∧ some k_ ≠ ((.slice (some ad310) t283.length co84) : Value).ownBlock) (.slice Ao85 t291.length co85) t291) ∧ Aside0 (Kd.R (Kd.int .i64) 3 wc w.heap.size (fun k_ => some k_ ≠ ((.slice Ao85 t291.length co85) : Value).ownBlock) (.slice (some ad310) t283.length co84) t283) ∧ Aside0 (Below w.heap.size w wc))
        case first =>
         as_aux_lemma =>
         have H := HC89.out
         clear HC89
         have c90 : ¬ ((rd t283 x282_2) < 1) := fun c90 => by
          rw [if_pos c90] at H
          exact absurd H (by simp)
         rw [if_neg c90] at H
         have c90b0 : decide ((rd t283 x282_2) < 1) = false := decide_eq_false c90
         clear c90
         (first | rw [c90b0] | (simp only [i64_w, i32_w]; rw [c90b0]) | skip)
         have c91 : ¬ ((rd t283 x282_2) > t305) := fun c91 => by
          rw [if_pos c91] at H
          exact absurd H (by simp)
         rw [if_neg c91] at H
         have c91b0 : decide (t305 < (rd t283 x282_2)) = false := decide_eq_false c91
         clear c91
         by_cases c92 : x282_2 > 0
         ·as_aux_lemma =>
          rw [if_pos c92] at H
          have c92b0 : decide (0 < x282_2) = true := decide_eq_true c92
          clear c92
          obtain ⟨ji93, hji93⟩ : ∃ j_ : Int, (wrap64 (x282_2 - 1)) = j_ := ⟨_, rfl⟩
          replace H : (if 0 ≤ (ji93) then (if (ji93) < (t283.length : Int) then (if (ji93) < (t291.length : Int) then (laws_FnWheelsTurnOfAll.j2 k2 l0 a1 t267 t268 t271 t272 t275 t279 t280 t283 t291 t305 (rd t283 x282_2) t283 (t283.length : Int) x282_2 ((wrap64 ((rd t283 x282_2) - (rd t283 (ji93)))) != (rd t291 (ji93)))) else (none)) else (none)) else (none)) = some r := by first | (rw [hji93] at H; exact H) | (simp only [hji93] at H ⊢; exact H)
          have hji93w : (IntKind.i64.wrap (x282_2 - 1)) = ji93 := (i64_w _).trans hji93
          have c94 : 0 ≤ (ji93) := Classical.byContradiction fun c94 => by
           rw [if_neg c94] at H
           exact absurd H (by simp)
          rw [if_pos c94] at H
          have c94b0 : decide (0 ≤ (ji93)) = true := decide_eq_true c94
          clear c94
          have c95 : (ji93) < (t283.length : Int) := Classical.byContradiction fun c95 => by
           rw [if_neg c95] at H
           exact absurd H (by simp)
          rw [if_pos c95] at H
          have c95b0 : decide ((ji93) < (t283.length : Int)) = true := decide_eq_true c95
          clear c95
          have c96 : (ji93) < (t291.length : Int) := Classical.byContradiction fun c96 => by
           rw [if_neg c96] at H
           exact absurd H (by simp)
          rw [if_pos c96] at H
          have c96b0 : decide ((ji93) < (t291.length : Int)) = true := decide_eq_true c96
          clear c96
          have H' := Aside0.mk H
          clear H
          have p311 : 0 ≤ ((ji93) : Int) := of_decide_eq_true (by first | (with_reducible assumption) | assumption)
          have q311 : (ji93) < (t283.length : Int) := of_decide_eq_true (by first | (with_reducible assumption) | assumption)
          obtain ⟨ad311, e311, hx311_0⟩ := Kd.at_int (Kd.R_reads' HO_21.out).2.2 (ji93) p311 q311
          obtain rfl : ad310 = ad311 := (by injection e311)
          replace p311 := eq_true p311
          replace q311 := eq_true q311
          have p312 : 0 ≤ ((ji93) : Int) := of_decide_eq_true (by first | (with_reducible assumption) | assumption)
          have q312 : (ji93) < (t291.length : Int) := of_decide_eq_true (by first | (with_reducible assumption) | assumption)
          obtain ⟨ad312, e312, hx312_0⟩ := Kd.at_int (Kd.R_reads' HO_25.out).2.2 (ji93) p312 q312
          cases e312
          replace p312 := eq_true p312
          replace q312 := eq_true q312
          as_aux_lemma =>
          go_wp2
          repeat (go_quiet (fail); try go_wp2)
          as_aux_lemma =>
          go_meet
          case rel => exact ⟨_, (((wrap64 ((rd t283 x282_2) - (rd t283 (ji93)))) != (rd t291 (ji93)))), (by first | rfl | (simp; done) | (simp only [← hji93] <;> (first | rfl | simp)) | (simp [*]; done)), H', ⟨by have := HJ17.out; have := HK2.out; first | omega | exact Nat.le_refl _⟩, ⟨by (with_reducible repeat (first | apply Kd.R_alloc | apply Kd.R_drewN | apply Kd.R_drew)); exact HO_21.out⟩, ⟨by (with_reducible repeat (first | apply Kd.R_alloc | apply Kd.R_drewN | apply Kd.R_drew)); exact HO_25.out⟩, ⟨by (with_reducible repeat (first | apply Kd.R_alloc | apply Kd.R_drewN | apply Kd.R_drew)); exact HO_280.out⟩, ⟨by repeat (first | (with_reducible first | exact HB.out | apply below_alloc | apply pw_below_drewN | apply below_drew1) | exact HB.out)⟩⟩
         ·as_aux_lemma =>
          rw [if_neg c92] at H
          have c92b0 : decide (0 < x282_2) = false := decide_eq_false c92
          clear c92
          have H' := Aside0.mk H
          clear H
          as_aux_lemma =>
          go_wp2
          repeat (go_quiet (fail); try go_wp2)
          as_aux_lemma =>
          go_meet
          case rel => exact ⟨_, (false), (by first | rfl | (simp; done) | (simp [*]; done)), H', ⟨by have := HJ17.out; have := HK2.out; first | omega | exact Nat.le_refl _⟩, ⟨by (with_reducible repeat (first | apply Kd.R_alloc | apply Kd.R_drewN | apply Kd.R_drew)); exact HO_21.out⟩, ⟨by (with_reducible repeat (first | apply Kd.R_alloc | apply Kd.R_drewN | apply Kd.R_drew)); exact HO_25.out⟩, ⟨by (with_reducible repeat (first | apply Kd.R_alloc | apply Kd.R_drewN | apply Kd.R_drew)); exact HO_280.out⟩, ⟨by repeat (first | (with_reducible first | exact HB.out | apply below_alloc | apply pw_below_drewN | apply below_drew1) | exact HB.out)⟩⟩
        case rest =>
         as_aux_lemma =>
         clear HC89
         try clear p2
         try clear c3
         try clear c3b0
         try clear c3b1
         try clear p3
         try clear q3
         try clear hx3
         try clear c4
         try clear c5
         try clear c6
         try clear p6
         try clear c7
         try clear c8
         try clear c9
         try clear p31
         try clear q31
         try clear hx31
         try clear c33
         try clear c33b0
         try clear c33b1
         try clear c33b2
         try clear c34
         try clear c34b0
         try clear c34b1
         try clear c35
         try clear c35b0
         try clear c35b1
         try clear c35b2
         try clear c36
         try clear c36b0
         try clear c36b1
         try clear c37
         try clear c37b0
         try clear c37b1
         try clear c37b2
         try clear c38
         try clear c38b0
         try clear c38b1
         try clear c38b2
         try clear c39
         try clear c39b0
         try clear c39b1
         try clear c39b2
         try clear c40
         try clear c40b0
         try clear c40b1
         try clear c41
         try clear c41b0
         try clear c41b1
         try clear c41b2
         try clear c43
         try clear c44
         try clear c44b0
         try clear c44b1
         try clear c44b2
         try clear c46
         try clear c47
         try clear c47b0
         try clear c47b1
         try clear c47b2
         try clear c48
         try clear c48b0
         try clear c48b1
         try clear c49
         try clear c49b0
         try clear c49b1
         try clear c49b2
         try clear c50
         try clear c50b0
         try clear c50b1
         try clear c50b2
         try clear c51
         try clear c52
         try clear c53
         try clear c53b0
         try clear c53b1
         try clear c53b2
         try clear c54
         try clear c59
         try clear c59b0
         try clear c59b1
         try clear c59b2
         try clear c60
         try clear p64
         try clear c65
         try clear c65b0
         try clear c65b1
         try clear c65b2
         try clear c70
         try clear c71
         try clear c74
         try clear c75
         try clear c76
         try clear c76b0
         try clear c76b1
         try clear c77
         try clear c77b0
         try clear c77b1
         try clear c78
         try clear c78b0
         try clear c78b1
         try clear c80
         try clear c80b0
         try clear c80b1
         try clear c81
         try clear c81b0
         try clear c86
         try clear c86b0
         try clear c87
         try clear c87b0
         try clear c88
         try clear c88b0
         try clear c90
         try clear c90b0
         try clear c91
         try clear c91b0
         try clear c92
         try clear c92b0
         try clear c94
         try clear c94b0
         try clear c95
         try clear c95b0
         try clear c96
         try clear c96b0
         try clear hx310_0
         try clear hx311_0
         try clear hx312_0
         try clear p2
         try clear p310
         try clear p311
         try clear p312
         try clear q310
         try clear q311
         try clear q312
         obtain ⟨kq, x312_88, rfl, HA, HJ88, HO_21, HO_25, HO_280, HB⟩ := hcut
         cases kq with
         | zero => exact absurd HA.out (by simp [laws_FnWheelsTurnOfAll.j2])
         | succ kj88 =>
          have H := HA.out
          clear HA
          simp only [laws_FnWheelsTurnOfAll.j2] at H
          have c97 : ¬ (x312_88 = true) := fun c97 => by
           subst c97
           have H1 : (none) = some r := by rw [if_pos rfl] at H; exact H
           clear H
           have H := H1
           clear H1
           exact absurd H (by simp)
          replace c97 := Bool.eq_false_iff.mpr c97
          subst c97
          have H1 : ((impl_IsSpoke.f kj88 l0 (wrap64 ((rd t283 x282_2) + (wrap64 (3 * t305))))).bind fun bt313 => (if bt313.2 = true then (if bt313.1 = true then (laws_FnWheelsTurnOfAll.l0 kj88 l0 a1 t267 t268 t271 t272 t275 t279 t280 t283 t291 t305 t283 (t283.length : Int) (wrap64 (x282_2 + 1))) else (none)) else (none))) = some r := by rw [if_neg (show ¬ (false = true) by decide)] at H; exact H
          clear H
          have H := H1
          clear H1
          replace H := Option.bind_eq_some_iff.mp H
          obtain ⟨⟨t313, t314⟩, A980, H⟩ := H
          replace H : (if t314 = true then (if t313 = true then (laws_FnWheelsTurnOfAll.l0 kj88 l0 a1 t267 t268 t271 t272 t275 t279 t280 t283 t291 t305 t283 (t283.length : Int) (wrap64 (x282_2 + 1))) else (none)) else (none)) = some r := H
          have A98 := Aside0.mk A980
          clear A980
          have c99 : t314 = true := Classical.byContradiction fun c99 => by
           replace c99 := Bool.eq_false_iff.mpr c99
           subst c99
           have H1 : (none) = some r := by rw [if_neg (show ¬ (false = true) by decide)] at H; exact H
           clear H
           have H := H1
           clear H1
           exact absurd H (by simp)
          subst c99
          have H1 : (if t313 = true then (laws_FnWheelsTurnOfAll.l0 kj88 l0 a1 t267 t268 t271 t272 t275 t279 t280 t283 t291 t305 t283 (t283.length : Int) (wrap64 (x282_2 + 1))) else (none)) = some r := by rw [if_pos rfl] at H; exact H
          clear H
          have H := H1
          clear H1
          have c100 : t313 = true := Classical.byContradiction fun c100 => by
           replace c100 := Bool.eq_false_iff.mpr c100
           subst c100
           have H1 : (none) = some r := by rw [if_neg (show ¬ (false = true) by decide)] at H; exact H
           clear H
           have H := H1
           clear H1
           exact absurd H (by simp)
          subst c100
          have H1 : (laws_FnWheelsTurnOfAll.l0 kj88 l0 a1 t267 t268 t271 t272 t275 t279 t280 t283 t291 t305 t283 (t283.length : Int) (wrap64 (x282_2 + 1))) = some r := by rw [if_pos rfl] at H; exact H
          clear H
          have H := H1
          clear H1
          have H' := Aside0.mk H
          clear H
          as_aux_lemma =>
          go_wp2_with (first | (go_at_call 11; (with_reducible refine (impl_IsSpoke.calls kj88 _ _ l0 (wrap64 ((rd t283 x282_2) + (wrap64 (3 * t305)))) true true _ ?side1 ?side2 A98.out).mono ?_); (case side1 => repeat (first | exact (Kd.C_below HR0.out HB.out) | (with_reducible refine Kd.C_alloc ?_ _) | (with_reducible refine Kd.C_drewN ?_ _) | (with_reducible refine Kd.C_drew ?_))); (case side2 => exact HC0.out); rintro e w101 ⟨rfl, hb⟩; have n0_ := Aside0.mk (Kd.R_below (by (with_reducible repeat (first | apply Kd.R_alloc | apply Kd.R_drewN | apply Kd.R_drew)); exact HO_21.out) hb); have n1_ := Aside0.mk (Kd.R_below (by (with_reducible repeat (first | apply Kd.R_alloc | apply Kd.R_drewN | apply Kd.R_drew)); exact HO_25.out) hb); have n2_ := Aside0.mk (Kd.R_below (by (with_reducible repeat (first | apply Kd.R_alloc | apply Kd.R_drewN | apply Kd.R_drew)); exact HO_280.out) hb); have n3_ := Aside0.mk (below_step (by repeat (first | (with_reducible first | exact HB.out | apply below_alloc | apply pw_below_drewN | apply below_drew1) | exact HB.out)) hb); clear HO_21; clear HO_25; clear HO_280; clear HB; have HO_21 := n0_; have HO_25 := n1_; have HO_280 := n2_; have HB := n3_; clear n0_ n1_ n2_ n3_; (try clear hb); (try clear hb2); (try clear hk); (try clear hi)))
          repeat (go_quiet (first | (go_at_call 11; (with_reducible refine (impl_IsSpoke.calls kj88 _ _ l0 (wrap64 ((rd t283 x282_2) + (wrap64 (3 * t305)))) true true _ ?side1 ?side2 A98.out).mono ?_); (case side1 => repeat (first | exact (Kd.C_below HR0.out HB.out) | (with_reducible refine Kd.C_alloc ?_ _) | (with_reducible refine Kd.C_drewN ?_ _) | (with_reducible refine Kd.C_drew ?_))); (case side2 => exact HC0.out); rintro e w101 ⟨rfl, hb⟩; have n0_ := Aside0.mk (Kd.R_below (by (with_reducible repeat (first | apply Kd.R_alloc | apply Kd.R_drewN | apply Kd.R_drew)); exact HO_21.out) hb); have n1_ := Aside0.mk (Kd.R_below (by (with_reducible repeat (first | apply Kd.R_alloc | apply Kd.R_drewN | apply Kd.R_drew)); exact HO_25.out) hb); have n2_ := Aside0.mk (Kd.R_below (by (with_reducible repeat (first | apply Kd.R_alloc | apply Kd.R_drewN | apply Kd.R_drew)); exact HO_280.out) hb); have n3_ := Aside0.mk (below_step (by repeat (first | (with_reducible first | exact HB.out | apply below_alloc | apply pw_below_drewN | apply below_drew1) | exact HB.out)) hb); clear HO_21; clear HO_25; clear HO_280; clear HB; have HO_21 := n0_; have HO_25 := n1_; have HO_280 := n2_; have HB := n3_; clear n0_ n1_ n2_ n3_; (try clear hb); (try clear hb2); (try clear hk); (try clear hi))); try go_wp2_with (first | (go_at_call 11; (with_reducible refine (impl_IsSpoke.calls kj88 _ _ l0 (wrap64 ((rd t283 x282_2) + (wrap64 (3 * t305)))) true true _ ?side1 ?side2 A98.out).mono ?_); (case side1 => repeat (first | exact (Kd.C_below HR0.out HB.out) | (with_reducible refine Kd.C_alloc ?_ _) | (with_reducible refine Kd.C_drewN ?_ _) | (with_reducible refine Kd.C_drew ?_))); (case side2 => exact HC0.out); rintro e w101 ⟨rfl, hb⟩; have n0_ := Aside0.mk (Kd.R_below (by (with_reducible repeat (first | apply Kd.R_alloc | apply Kd.R_drewN | apply Kd.R_drew)); exact HO_21.out) hb); have n1_ := Aside0.mk (Kd.R_below (by (with_reducible repeat (first | apply Kd.R_alloc | apply Kd.R_drewN | apply Kd.R_drew)); exact HO_25.out) hb); have n2_ := Aside0.mk (Kd.R_below (by (with_reducible repeat (first | apply Kd.R_alloc | apply Kd.R_drewN | apply Kd.R_drew)); exact HO_280.out) hb); have n3_ := Aside0.mk (below_step (by repeat (first | (with_reducible first | exact HB.out | apply below_alloc | apply pw_below_drewN | apply below_drew1) | exact HB.out)) hb); clear HO_21; clear HO_25; clear HO_280; clear HB; have HO_21 := n0_; have HO_25 := n1_; have HO_280 := n2_; have HB := n3_; clear n0_ n1_ n2_ n3_; (try clear hb); (try clear hb2); (try clear hk); (try clear hi))))
          first | go_roundg kj88 | (try subst hji93; go_roundg kj88)
          case measure => have := HJ17.out; have := HK2.out; have := HJ88.out; omega
          case rel => exact ⟨(wrap64 (x282_2 + 1)), (by first | rfl | (simp; done) | (simp [*]; done)), H', ⟨by have := HJ17.out; have := HK2.out; have := HJ88.out; omega⟩, ⟨by (with_reducible repeat (first | apply Kd.R_alloc | apply Kd.R_drewN | apply Kd.R_drew)); exact HO_21.out⟩, ⟨by (with_reducible repeat (first | apply Kd.R_alloc | apply Kd.R_drewN | apply Kd.R_drew)); exact HO_25.out⟩, ⟨by (with_reducible repeat (first | apply Kd.R_alloc | apply Kd.R_drewN | apply Kd.R_drew)); exact HO_280.out⟩, ⟨by repeat (first | (with_reducible first | exact HB.out | apply below_alloc | apply pw_below_drewN | apply below_drew1) | exact HB.out)⟩⟩
       ·as_aux_lemma =>
        rw [if_neg c86] at H
        have c86b0 : decide (x282_2 < (t283.length : Int)) = false := decide_eq_false c86
        clear c86
        have HC102 := Aside0.mk H
        clear H
        as_aux_lemma =>
        go_upto_region 34 with (fail)
        repeat (go_quiet (fail); go_upto_region 34 with (fail))
        go_cut [333] from 9999 to 9999 (fun v333 wc => ∃ (kq : Nat) (x333_101 : Bool), v333 = .bool x333_101 ∧ Aside0 (laws_FnWheelsTurnOfAll.j3 kq l0 a1 t267 t271 t272 t275 t279 t280 x333_101 = some r) ∧ Aside0 (kq ≤ k2) ∧ Aside0 (Below w.heap.size w wc))
        case first =>
         as_aux_lemma =>
         have H := HC102.out
         clear HC102
         by_cases c103 : t268 = true
         ·subst c103
          have H1 : (laws_FnWheelsTurnOfAll.j3 k2 l0 a1 t267 t271 t272 t275 t279 t280 (decide (t267 ≤ 1000000000))) = some r := by rw [if_pos rfl] at H; exact H
          clear H
          have H := H1
          clear H1
          have H' := Aside0.mk H
          clear H
          as_aux_lemma =>
          go_wp2
          repeat (go_quiet (fail); try go_wp2)
          as_aux_lemma =>
          go_meet
          case rel => exact ⟨_, (decide (t267 ≤ 1000000000)), (by first | rfl | (simp; done) | (simp [*]; done)), H', ⟨by have := HJ17.out; have := HK2.out; first | omega | exact Nat.le_refl _⟩, ⟨by repeat (first | (with_reducible first | exact HB.out | apply below_alloc | apply pw_below_drewN | apply below_drew1) | exact HB.out)⟩⟩
         ·replace c103 := Bool.eq_false_iff.mpr c103
          subst c103
          have H1 : (laws_FnWheelsTurnOfAll.j3 k2 l0 a1 t267 t271 t272 t275 t279 t280 false) = some r := by rw [if_neg (show ¬ (false = true) by decide)] at H; exact H
          clear H
          have H := H1
          clear H1
          have H' := Aside0.mk H
          clear H
          as_aux_lemma =>
          go_wp2
          repeat (go_quiet (fail); try go_wp2)
          as_aux_lemma =>
          go_meet
          case rel => exact ⟨_, (false), (by first | rfl | (simp; done) | (simp [*]; done)), H', ⟨by have := HJ17.out; have := HK2.out; first | omega | exact Nat.le_refl _⟩, ⟨by repeat (first | (with_reducible first | exact HB.out | apply below_alloc | apply pw_below_drewN | apply below_drew1) | exact HB.out)⟩⟩
        case rest =>
         as_aux_lemma =>
         clear HC102
         try clear c1
         try clear p2
         try clear c3
         try clear c3b0
         try clear c3b1
         try clear p3
         try clear q3
         try clear hx3
         try clear c4
         try clear c5
         try clear c6
         try clear p6
         try clear c7
         try clear c8
         try clear c9
         try clear c10
         try clear p31
         try clear q31
         try clear hx31
         try clear c33
         try clear c33b0
         try clear c33b1
         try clear c33b2
         try clear c34
         try clear c34b0
         try clear c34b1
         try clear c35
         try clear c35b0
         try clear c35b1
         try clear c35b2
         try clear c36
         try clear c36b0
         try clear c36b1
         try clear c37
         try clear c37b0
         try clear c37b1
         try clear c37b2
         try clear c38
         try clear c38b0
         try clear c38b1
         try clear c38b2
         try clear c39
         try clear c39b0
         try clear c39b1
         try clear c39b2
         try clear c40
         try clear c40b0
         try clear c40b1
         try clear c41
         try clear c41b0
         try clear c41b1
         try clear c41b2
         try clear c43
         try clear c44
         try clear c44b0
         try clear c44b1
         try clear c44b2
         try clear c46
         try clear c47
         try clear c47b0
         try clear c47b1
         try clear c47b2
         try clear c48
         try clear c48b0
         try clear c48b1
         try clear c49
         try clear c49b0
         try clear c49b1
         try clear c49b2
         try clear c50
         try clear c50b0
         try clear c50b1
         try clear c50b2
         try clear c51
         try clear c52
         try clear c53
         try clear c53b0
         try clear c53b1
         try clear c53b2
         try clear c54
         try clear c59
         try clear c59b0
         try clear c59b1
         try clear c59b2
         try clear c60
         try clear p64
         try clear c65
         try clear c65b0
         try clear c65b1
         try clear c65b2
         try clear c70
         try clear c71
         try clear c74
         try clear c75
         try clear c76
         try clear c76b0
         try clear c76b1
         try clear c77
         try clear c77b0
         try clear c77b1
         try clear c78
         try clear c78b0
         try clear c78b1
         try clear c80
         try clear c80b0
         try clear c80b1
         try clear c81
         try clear c81b0
         try clear c86
         try clear c86b0
         try clear c87
         try clear c87b0
         try clear c88
         try clear c88b0
         try clear c90
         try clear c90b0
         try clear c91
         try clear c91b0
         try clear c92
         try clear c92b0
         try clear c94
         try clear c94b0
         try clear c95
         try clear c95b0
         try clear c96
         try clear c96b0
         try clear c97
         try clear c99
         try clear c100
         try clear c103
         try clear hx310_0
         try clear hx311_0
         try clear hx312_0
         try clear p2
         try clear p3
         try clear p31
         try clear p310
         try clear p311
         try clear p312
         try clear p6
         try clear p64
         try clear q3
         try clear q31
         try clear q310
         try clear q311
         try clear q312
         obtain ⟨kq, x333_101, rfl, HA, HJ101, HB⟩ := hcut
         cases kq with
         | zero => exact absurd HA.out (by simp [laws_FnWheelsTurnOfAll.j3])
         | succ kj101 =>
          have H := HA.out
          clear HA
          simp only [laws_FnWheelsTurnOfAll.j3] at H
          have HC104 := Aside0.mk H
          clear H
          go_upto_if 333 with (fail)
          repeat (go_quiet (fail); go_upto_if 333 with (fail))
          go_cut [] from 9999 to 9999 (fun wc => ∃ (kq : Nat), Aside0 (laws_FnWheelsTurnOfAll.j4 kq l0 a1 t271 t272 t275 t279 t280 = some r) ∧ Aside0 (kq ≤ kj101) ∧ Aside0 (Below w.heap.size w wc))
          case first =>
           as_aux_lemma =>
           have H := HC104.out
           clear HC104
           by_cases c105 : x333_101 = true
           ·subst c105
            have H1 : ((impl_RankOfSpoke.f kj101 l0 t267).bind fun bt315 => (if bt315.2 = true then (if bt315.1 = a1 then (laws_FnWheelsTurnOfAll.j4 kj101 l0 a1 t271 t272 t275 t279 t280) else (none)) else (none))) = some r := by rw [if_pos rfl] at H; exact H
            clear H
            have H := H1
            clear H1
            replace H := Option.bind_eq_some_iff.mp H
            obtain ⟨⟨t315, t316⟩, A1060, H⟩ := H
            replace H : (if t316 = true then (if t315 = a1 then (laws_FnWheelsTurnOfAll.j4 kj101 l0 a1 t271 t272 t275 t279 t280) else (none)) else (none)) = some r := H
            have A106 := Aside0.mk A1060
            clear A1060
            have c107 : t316 = true := Classical.byContradiction fun c107 => by
             replace c107 := Bool.eq_false_iff.mpr c107
             subst c107
             have H1 : (none) = some r := by rw [if_neg (show ¬ (false = true) by decide)] at H; exact H
             clear H
             have H := H1
             clear H1
             exact absurd H (by simp)
            subst c107
            have H1 : (if t315 = a1 then (laws_FnWheelsTurnOfAll.j4 kj101 l0 a1 t271 t272 t275 t279 t280) else (none)) = some r := by rw [if_pos rfl] at H; exact H
            clear H
            have H := H1
            clear H1
            have c108 : t315 = a1 := Classical.byContradiction fun c108 => by
             rw [if_neg c108] at H
             exact absurd H (by simp)
            rw [if_pos c108] at H
            have c108b0 : (t315 == a1) = true := beq_iff_eq.mpr c108
            have c108b1 : (t315 != a1) = false := bne_eq_false_iff_eq.mpr c108
            clear c108
            (first | rw [c108b0] | (simp only [i64_w, i32_w]; rw [c108b0]) | skip)
            have H' := Aside0.mk H
            clear H
            as_aux_lemma =>
            go_wp2_with (first | (go_at_call 9; (with_reducible refine (impl_RankOfSpoke.calls kj101 _ _ l0 t267 t315 true _ ?side1 ?side2 A106.out).mono ?_); (case side1 => repeat (first | exact (Kd.C_below HR0.out HB.out) | (with_reducible refine Kd.C_alloc ?_ _) | (with_reducible refine Kd.C_drewN ?_ _) | (with_reducible refine Kd.C_drew ?_))); (case side2 => exact HC0.out); rintro e w109 ⟨rfl, hb⟩; have n0_ := Aside0.mk (below_step (by repeat (first | (with_reducible first | exact HB.out | apply below_alloc | apply pw_below_drewN | apply below_drew1) | exact HB.out)) hb); clear HB; have HB := n0_; clear n0_; (try clear hb); (try clear hb2); (try clear hk); (try clear hi)))
            repeat (go_quiet (first | (go_at_call 9; (with_reducible refine (impl_RankOfSpoke.calls kj101 _ _ l0 t267 t315 true _ ?side1 ?side2 A106.out).mono ?_); (case side1 => repeat (first | exact (Kd.C_below HR0.out HB.out) | (with_reducible refine Kd.C_alloc ?_ _) | (with_reducible refine Kd.C_drewN ?_ _) | (with_reducible refine Kd.C_drew ?_))); (case side2 => exact HC0.out); rintro e w109 ⟨rfl, hb⟩; have n0_ := Aside0.mk (below_step (by repeat (first | (with_reducible first | exact HB.out | apply below_alloc | apply pw_below_drewN | apply below_drew1) | exact HB.out)) hb); clear HB; have HB := n0_; clear n0_; (try clear hb); (try clear hb2); (try clear hk); (try clear hi))); try go_wp2_with (first | (go_at_call 9; (with_reducible refine (impl_RankOfSpoke.calls kj101 _ _ l0 t267 t315 true _ ?side1 ?side2 A106.out).mono ?_); (case side1 => repeat (first | exact (Kd.C_below HR0.out HB.out) | (with_reducible refine Kd.C_alloc ?_ _) | (with_reducible refine Kd.C_drewN ?_ _) | (with_reducible refine Kd.C_drew ?_))); (case side2 => exact HC0.out); rintro e w109 ⟨rfl, hb⟩; have n0_ := Aside0.mk (below_step (by repeat (first | (with_reducible first | exact HB.out | apply below_alloc | apply pw_below_drewN | apply below_drew1) | exact HB.out)) hb); clear HB; have HB := n0_; clear n0_; (try clear hb); (try clear hb2); (try clear hk); (try clear hi))))
            as_aux_lemma =>
            go_meet
            case rel => exact ⟨_, H', ⟨by have := HJ17.out; have := HK2.out; have := HJ101.out; first | omega | exact Nat.le_refl _⟩, ⟨by repeat (first | (with_reducible first | exact HB.out | apply below_alloc | apply pw_below_drewN | apply below_drew1) | exact HB.out)⟩⟩
           ·replace c105 := Bool.eq_false_iff.mpr c105
            subst c105
            have H1 : (laws_FnWheelsTurnOfAll.j4 kj101 l0 a1 t271 t272 t275 t279 t280) = some r := by rw [if_neg (show ¬ (false = true) by decide)] at H; exact H
            clear H
            have H := H1
            clear H1
            have H' := Aside0.mk H
            clear H
            as_aux_lemma =>
            go_wp2
            repeat (go_quiet (fail); try go_wp2)
            as_aux_lemma =>
            go_meet
            case rel => exact ⟨_, H', ⟨by have := HJ17.out; have := HK2.out; have := HJ101.out; first | omega | exact Nat.le_refl _⟩, ⟨by repeat (first | (with_reducible first | exact HB.out | apply below_alloc | apply pw_below_drewN | apply below_drew1) | exact HB.out)⟩⟩
          case rest =>
           as_aux_lemma =>
           clear HC104
           try clear c1
           try clear p2
           try clear c3
           try clear c3b0
           try clear c3b1
           try clear p3
           try clear q3
           try clear hx3
           try clear c4
           try clear c5
           try clear c6
           try clear p6
           try clear c7
           try clear c8
           try clear c9
           try clear c10
           try clear p31
           try clear q31
           try clear hx31
           try clear c33
           try clear c33b0
           try clear c33b1
           try clear c33b2
           try clear c34
           try clear c34b0
           try clear c34b1
           try clear c35
           try clear c35b0
           try clear c35b1
           try clear c35b2
           try clear c36
           try clear c36b0
           try clear c36b1
           try clear c37
           try clear c37b0
           try clear c37b1
           try clear c37b2
           try clear c38
           try clear c38b0
           try clear c38b1
           try clear c38b2
           try clear c39
           try clear c39b0
           try clear c39b1
           try clear c39b2
           try clear c40
           try clear c40b0
           try clear c40b1
           try clear c41
           try clear c41b0
           try clear c41b1
           try clear c41b2
           try clear c43
           try clear c44
           try clear c44b0
           try clear c44b1
           try clear c44b2
           try clear c46
           try clear c47
           try clear c47b0
           try clear c47b1
           try clear c47b2
           try clear c48
           try clear c48b0
           try clear c48b1
           try clear c49
           try clear c49b0
           try clear c49b1
           try clear c49b2
           try clear c50
           try clear c50b0
           try clear c50b1
           try clear c50b2
           try clear c51
           try clear c52
           try clear c53
           try clear c53b0
           try clear c53b1
           try clear c53b2
           try clear c54
           try clear c59
           try clear c59b0
           try clear c59b1
           try clear c59b2
           try clear c60
           try clear p64
           try clear c65
           try clear c65b0
           try clear c65b1
           try clear c65b2
           try clear c70
           try clear c71
           try clear c74
           try clear c75
           try clear c76
           try clear c76b0
           try clear c76b1
           try clear c77
           try clear c77b0
           try clear c77b1
           try clear c78
           try clear c78b0
           try clear c78b1
           try clear c80
           try clear c80b0
           try clear c80b1
           try clear c81
           try clear c81b0
           try clear c86
           try clear c86b0
           try clear c87
           try clear c87b0
           try clear c88
           try clear c88b0
           try clear c90
           try clear c90b0
           try clear c91
           try clear c91b0
           try clear c92
           try clear c92b0
           try clear c94
           try clear c94b0
           try clear c95
           try clear c95b0
           try clear c96
           try clear c96b0
           try clear c97
           try clear c99
           try clear c100
           try clear c103
           try clear c105
           try clear c107
           try clear c108
           try clear c108b0
           try clear c108b1
           try clear hx310_0
           try clear hx311_0
           try clear hx312_0
           try clear p2
           try clear p3
           try clear p31
           try clear p310
           try clear p311
           try clear p312
           try clear p6
           try clear p64
           try clear q3
           try clear q31
           try clear q310
           try clear q311
           try clear q312
           obtain ⟨kq, HA, HJ103, HB⟩ := hcut
           cases kq with
           | zero => exact absurd HA.out (by simp [laws_FnWheelsTurnOfAll.j4])
           | succ kj103 =>
            have H := HA.out
            clear HA
            simp only [laws_FnWheelsTurnOfAll.j4] at H
            have HC110 := Aside0.mk H
            clear H
            go_upto_if 347 with (fail)
            repeat (go_quiet (fail); go_upto_if 347 with (fail))
            go_cut [] from 9999 to 9999 (fun wc => ∃ (kq : Nat), Aside0 (laws_FnWheelsTurnOfAll.j5 kq l0 a1 t275 t279 t280 = some r) ∧ Aside0 (kq ≤ kj103) ∧ Aside0 (Below w.heap.size w wc))
            case first =>
             as_aux_lemma =>
             have H := HC110.out
             clear HC110
             by_cases c111 : t272 = true
             ·subst c111
              have H1 : ((impl_SpokeOfRank.f kj103 l0 t271).bind fun bt317 => (if bt317.2 = true then (if bt317.1 = a1 then (laws_FnWheelsTurnOfAll.j5 kj103 l0 a1 t275 t279 t280) else (none)) else (none))) = some r := by rw [if_pos rfl] at H; exact H
              clear H
              have H := H1
              clear H1
              replace H := Option.bind_eq_some_iff.mp H
              obtain ⟨⟨t317, t318⟩, A1120, H⟩ := H
              replace H : (if t318 = true then (if t317 = a1 then (laws_FnWheelsTurnOfAll.j5 kj103 l0 a1 t275 t279 t280) else (none)) else (none)) = some r := H
              have A112 := Aside0.mk A1120
              clear A1120
              have c113 : t318 = true := Classical.byContradiction fun c113 => by
               replace c113 := Bool.eq_false_iff.mpr c113
               subst c113
               have H1 : (none) = some r := by rw [if_neg (show ¬ (false = true) by decide)] at H; exact H
               clear H
               have H := H1
               clear H1
               exact absurd H (by simp)
              subst c113
              have H1 : (if t317 = a1 then (laws_FnWheelsTurnOfAll.j5 kj103 l0 a1 t275 t279 t280) else (none)) = some r := by rw [if_pos rfl] at H; exact H
              clear H
              have H := H1
              clear H1
              have c114 : t317 = a1 := Classical.byContradiction fun c114 => by
               rw [if_neg c114] at H
               exact absurd H (by simp)
              rw [if_pos c114] at H
              have c114b0 : (t317 == a1) = true := beq_iff_eq.mpr c114
              have c114b1 : (t317 != a1) = false := bne_eq_false_iff_eq.mpr c114
              clear c114
              (first | rw [c114b0] | (simp only [i64_w, i32_w]; rw [c114b0]) | skip)
              have H' := Aside0.mk H
              clear H
              as_aux_lemma =>
              go_wp2_with (first | (go_at_call 7; (with_reducible refine (impl_SpokeOfRank.calls kj103 _ _ l0 t271 t317 true _ ?side1 ?side2 A112.out).mono ?_); (case side1 => repeat (first | exact (Kd.C_below HR0.out HB.out) | (with_reducible refine Kd.C_alloc ?_ _) | (with_reducible refine Kd.C_drewN ?_ _) | (with_reducible refine Kd.C_drew ?_))); (case side2 => exact HC0.out); rintro e w115 ⟨rfl, hb⟩; have n0_ := Aside0.mk (below_step (by repeat (first | (with_reducible first | exact HB.out | apply below_alloc | apply pw_below_drewN | apply below_drew1) | exact HB.out)) hb); clear HB; have HB := n0_; clear n0_; (try clear hb); (try clear hb2); (try clear hk); (try clear hi)))
              repeat (go_quiet (first | (go_at_call 7; (with_reducible refine (impl_SpokeOfRank.calls kj103 _ _ l0 t271 t317 true _ ?side1 ?side2 A112.out).mono ?_); (case side1 => repeat (first | exact (Kd.C_below HR0.out HB.out) | (with_reducible refine Kd.C_alloc ?_ _) | (with_reducible refine Kd.C_drewN ?_ _) | (with_reducible refine Kd.C_drew ?_))); (case side2 => exact HC0.out); rintro e w115 ⟨rfl, hb⟩; have n0_ := Aside0.mk (below_step (by repeat (first | (with_reducible first | exact HB.out | apply below_alloc | apply pw_below_drewN | apply below_drew1) | exact HB.out)) hb); clear HB; have HB := n0_; clear n0_; (try clear hb); (try clear hb2); (try clear hk); (try clear hi))); try go_wp2_with (first | (go_at_call 7; (with_reducible refine (impl_SpokeOfRank.calls kj103 _ _ l0 t271 t317 true _ ?side1 ?side2 A112.out).mono ?_); (case side1 => repeat (first | exact (Kd.C_below HR0.out HB.out) | (with_reducible refine Kd.C_alloc ?_ _) | (with_reducible refine Kd.C_drewN ?_ _) | (with_reducible refine Kd.C_drew ?_))); (case side2 => exact HC0.out); rintro e w115 ⟨rfl, hb⟩; have n0_ := Aside0.mk (below_step (by repeat (first | (with_reducible first | exact HB.out | apply below_alloc | apply pw_below_drewN | apply below_drew1) | exact HB.out)) hb); clear HB; have HB := n0_; clear n0_; (try clear hb); (try clear hb2); (try clear hk); (try clear hi))))
              as_aux_lemma =>
              go_meet
              case rel => exact ⟨_, H', ⟨by have := HJ17.out; have := HK2.out; have := HJ101.out; have := HJ103.out; first | omega | exact Nat.le_refl _⟩, ⟨by repeat (first | (with_reducible first | exact HB.out | apply below_alloc | apply pw_below_drewN | apply below_drew1) | exact HB.out)⟩⟩
             ·replace c111 := Bool.eq_false_iff.mpr c111
              subst c111
              have H1 : (laws_FnWheelsTurnOfAll.j5 kj103 l0 a1 t275 t279 t280) = some r := by rw [if_neg (show ¬ (false = true) by decide)] at H; exact H
              clear H
              have H := H1
              clear H1
              have H' := Aside0.mk H
              clear H
              as_aux_lemma =>
              go_wp2
              repeat (go_quiet (fail); try go_wp2)
              as_aux_lemma =>
              go_meet
              case rel => exact ⟨_, H', ⟨by have := HJ17.out; have := HK2.out; have := HJ101.out; have := HJ103.out; first | omega | exact Nat.le_refl _⟩, ⟨by repeat (first | (with_reducible first | exact HB.out | apply below_alloc | apply pw_below_drewN | apply below_drew1) | exact HB.out)⟩⟩
            case rest =>
             as_aux_lemma =>
             clear HC110
             try clear c1
             try clear p2
             try clear c3
             try clear c3b0
             try clear c3b1
             try clear p3
             try clear q3
             try clear hx3
             try clear c4
             try clear c5
             try clear c6
             try clear p6
             try clear c7
             try clear c8
             try clear c9
             try clear c10
             try clear c11
             try clear p31
             try clear q31
             try clear hx31
             try clear c33
             try clear c33b0
             try clear c33b1
             try clear c33b2
             try clear c34
             try clear c34b0
             try clear c34b1
             try clear c35
             try clear c35b0
             try clear c35b1
             try clear c35b2
             try clear c36
             try clear c36b0
             try clear c36b1
             try clear c37
             try clear c37b0
             try clear c37b1
             try clear c37b2
             try clear c38
             try clear c38b0
             try clear c38b1
             try clear c38b2
             try clear c39
             try clear c39b0
             try clear c39b1
             try clear c39b2
             try clear c40
             try clear c40b0
             try clear c40b1
             try clear c41
             try clear c41b0
             try clear c41b1
             try clear c41b2
             try clear c43
             try clear c44
             try clear c44b0
             try clear c44b1
             try clear c44b2
             try clear c46
             try clear c47
             try clear c47b0
             try clear c47b1
             try clear c47b2
             try clear c48
             try clear c48b0
             try clear c48b1
             try clear c49
             try clear c49b0
             try clear c49b1
             try clear c49b2
             try clear c50
             try clear c50b0
             try clear c50b1
             try clear c50b2
             try clear c51
             try clear c52
             try clear c53
             try clear c53b0
             try clear c53b1
             try clear c53b2
             try clear c54
             try clear c59
             try clear c59b0
             try clear c59b1
             try clear c59b2
             try clear c60
             try clear p64
             try clear c65
             try clear c65b0
             try clear c65b1
             try clear c65b2
             try clear c70
             try clear c71
             try clear c74
             try clear c75
             try clear c76
             try clear c76b0
             try clear c76b1
             try clear c77
             try clear c77b0
             try clear c77b1
             try clear c78
             try clear c78b0
             try clear c78b1
             try clear c80
             try clear c80b0
             try clear c80b1
             try clear c81
             try clear c81b0
             try clear c86
             try clear c86b0
             try clear c87
             try clear c87b0
             try clear c88
             try clear c88b0
             try clear c90
             try clear c90b0
             try clear c91
             try clear c91b0
             try clear c92
             try clear c92b0
             try clear c94
             try clear c94b0
             try clear c95
             try clear c95b0
             try clear c96
             try clear c96b0
             try clear c97
             try clear c99
             try clear c100
             try clear c103
             try clear c105
             try clear c107
             try clear c108
             try clear c108b0
             try clear c108b1
             try clear c111
             try clear c113
             try clear c114
             try clear c114b0
             try clear c114b1
             try clear hx310_0
             try clear hx311_0
             try clear hx312_0
             try clear p2
             try clear p3
             try clear p31
             try clear p310
             try clear p311
             try clear p312
             try clear p6
             try clear p64
             try clear q3
             try clear q31
             try clear q310
             try clear q311
             try clear q312
             obtain ⟨kq, HA, HJ109, HB⟩ := hcut
             cases kq with
             | zero => exact absurd HA.out (by simp [laws_FnWheelsTurnOfAll.j5])
             | succ kj109 =>
              have H := HA.out
              clear HA
              simp only [laws_FnWheelsTurnOfAll.j5] at H
              by_cases c116 : t280 = true
              ·subst c116
               have H1 : (if (wrap64 (t279 - a1)) < 0 then (laws_FnWheelsTurnOfAll.j6 kj109 l0 a1 t275 t279 (wrap64 (-(wrap64 (t279 - a1))))) else (laws_FnWheelsTurnOfAll.j6 kj109 l0 a1 t275 t279 (wrap64 (t279 - a1)))) = some r := by rw [if_pos rfl] at H; exact H
               clear H
               have H := H1
               clear H1
               have HC117 := Aside0.mk H
               clear H
               go_upto_if 366 with (fail)
               repeat (go_quiet (fail); go_upto_if 366 with (fail))
               go_cut [45] (fun v45 wc => ∃ (kq : Nat) (x45_116 : Int), v45 = .int .i64 x45_116 ∧ Aside0 (laws_FnWheelsTurnOfAll.j6 kq l0 a1 t275 t279 x45_116 = some r) ∧ Aside0 (kq ≤ kj109) ∧ Aside0 (Below w.heap.size w wc))
               case first =>
                as_aux_lemma =>
                have H := HC117.out
                clear HC117
                by_cases c118 : (wrap64 (t279 - a1)) < 0
                ·as_aux_lemma =>
                 rw [if_pos c118] at H
                 have c118b0 : decide ((wrap64 (t279 - a1)) < 0) = true := decide_eq_true c118
                 clear c118
                 (first | rw [c118b0] | (simp only [i64_w, i32_w]; rw [c118b0]) | skip)
                 have H' := Aside0.mk H
                 clear H
                 as_aux_lemma =>
                 go_wp2
                 repeat (go_quiet (fail); try go_wp2)
                 as_aux_lemma =>
                 go_meet
                 case rel => exact ⟨_, (wrap64 (-(wrap64 (t279 - a1)))), (by first | rfl | (simp; done) | (simp [*]; done)), H', ⟨by have := HJ17.out; have := HK2.out; have := HJ101.out; have := HJ103.out; have := HJ109.out; first | omega | exact Nat.le_refl _⟩, ⟨by repeat (first | (with_reducible first | exact HB.out | apply below_alloc | apply pw_below_drewN | apply below_drew1) | exact HB.out)⟩⟩
                ·as_aux_lemma =>
                 rw [if_neg c118] at H
                 have c118b0 : decide ((wrap64 (t279 - a1)) < 0) = false := decide_eq_false c118
                 clear c118
                 (first | rw [c118b0] | (simp only [i64_w, i32_w]; rw [c118b0]) | skip)
                 have H' := Aside0.mk H
                 clear H
                 as_aux_lemma =>
                 go_wp2
                 repeat (go_quiet (fail); try go_wp2)
                 as_aux_lemma =>
                 go_meet
                 case rel => exact ⟨_, (wrap64 (t279 - a1)), (by first | rfl | (simp; done) | (simp [*]; done)), H', ⟨by have := HJ17.out; have := HK2.out; have := HJ101.out; have := HJ103.out; have := HJ109.out; first | omega | exact Nat.le_refl _⟩, ⟨by repeat (first | (with_reducible first | exact HB.out | apply below_alloc | apply pw_below_drewN | apply below_drew1) | exact HB.out)⟩⟩
               case rest =>
                as_aux_lemma =>
                clear HC117
                try clear c1
                try clear p2
                try clear c3
                try clear c3b0
                try clear c3b1
                try clear p3
                try clear q3
                try clear hx3
                try clear c4
                try clear c5
                try clear c6
                try clear p6
                try clear c7
                try clear c8
                try clear c9
                try clear c10
                try clear c11
                try clear p31
                try clear q31
                try clear hx31
                try clear c33
                try clear c33b0
                try clear c33b1
                try clear c33b2
                try clear c34
                try clear c34b0
                try clear c34b1
                try clear c35
                try clear c35b0
                try clear c35b1
                try clear c35b2
                try clear c36
                try clear c36b0
                try clear c36b1
                try clear c37
                try clear c37b0
                try clear c37b1
                try clear c37b2
                try clear c38
                try clear c38b0
                try clear c38b1
                try clear c38b2
                try clear c39
                try clear c39b0
                try clear c39b1
                try clear c39b2
                try clear c40
                try clear c40b0
                try clear c40b1
                try clear c41
                try clear c41b0
                try clear c41b1
                try clear c41b2
                try clear c43
                try clear c44
                try clear c44b0
                try clear c44b1
                try clear c44b2
                try clear c46
                try clear c47
                try clear c47b0
                try clear c47b1
                try clear c47b2
                try clear c48
                try clear c48b0
                try clear c48b1
                try clear c49
                try clear c49b0
                try clear c49b1
                try clear c49b2
                try clear c50
                try clear c50b0
                try clear c50b1
                try clear c50b2
                try clear c51
                try clear c52
                try clear c53
                try clear c53b0
                try clear c53b1
                try clear c53b2
                try clear c54
                try clear c59
                try clear c59b0
                try clear c59b1
                try clear c59b2
                try clear c60
                try clear p64
                try clear c65
                try clear c65b0
                try clear c65b1
                try clear c65b2
                try clear c70
                try clear c71
                try clear c74
                try clear c75
                try clear c76
                try clear c76b0
                try clear c76b1
                try clear c77
                try clear c77b0
                try clear c77b1
                try clear c78
                try clear c78b0
                try clear c78b1
                try clear c80
                try clear c80b0
                try clear c80b1
                try clear c81
                try clear c81b0
                try clear c86
                try clear c86b0
                try clear c87
                try clear c87b0
                try clear c88
                try clear c88b0
                try clear c90
                try clear c90b0
                try clear c91
                try clear c91b0
                try clear c92
                try clear c92b0
                try clear c94
                try clear c94b0
                try clear c95
                try clear c95b0
                try clear c96
                try clear c96b0
                try clear c97
                try clear c99
                try clear c100
                try clear c103
                try clear c105
                try clear c107
                try clear c108
                try clear c108b0
                try clear c108b1
                try clear c111
                try clear c113
                try clear c114
                try clear c114b0
                try clear c114b1
                try clear c116
                try clear c118
                try clear c118b0
                try clear hx310_0
                try clear hx311_0
                try clear hx312_0
                try clear p2
                try clear p3
                try clear p31
                try clear p310
                try clear p311
                try clear p312
                try clear p6
                try clear p64
                try clear q3
                try clear q31
                try clear q310
                try clear q311
                try clear q312
                obtain ⟨kq, x45_116, rfl, HA, HJ116, HB⟩ := hcut
                cases kq with
                | zero => exact absurd HA.out (by simp [laws_FnWheelsTurnOfAll.j6])
                | succ kj116 =>
                 have H := HA.out
                 clear HA
                 simp only [laws_FnWheelsTurnOfAll.j6] at H
                 have HC119 := Aside0.mk H
                 clear H
                 as_aux_lemma =>
                 go_upto_region 46 with (fail)
                 repeat (go_quiet (fail); go_upto_region 46 with (fail))
                 go_cut [388] from 9999 to 9999 (fun v388 wc => ∃ (kq : Nat) (x388_118 : Bool), v388 = .bool x388_118 ∧ Aside0 (laws_FnWheelsTurnOfAll.j7 kq l0 a1 t275 t279 x45_116 x388_118 = some r) ∧ Aside0 (kq ≤ kj116) ∧ Aside0 (Below w.heap.size w wc))
                 case first =>
                  as_aux_lemma =>
                  have H := HC119.out
                  clear HC119
                  by_cases c120 : (t275 != (x45_116 == 0)) = true
                  ·as_aux_lemma =>
                   rw [if_pos c120] at H
                   have c120b0 : (t275 != (x45_116 == 0)) = true := c120
                   (try (have c120b1 : decide (t275 = (x45_116 == 0)) = false := by simpa using c120))
                   (try (have c120b2 : (t275 == (x45_116 == 0)) = false := by simpa using c120))
                   (try (have c120b3 : ¬ (t275 = (x45_116 == 0)) := by simpa using c120))
                   clear c120
                   (first | rw [c120b0] | (simp only [i64_w, i32_w]; rw [c120b0]) | skip)
                   have H' := Aside0.mk H
                   clear H
                   as_aux_lemma =>
                   go_wp2
                   repeat (go_quiet (fail); try go_wp2)
                   as_aux_lemma =>
                   go_meet
                   case rel => exact ⟨_, (true), (by first | rfl | (simp; done) | (simp [*]; done)), H', ⟨by have := HJ17.out; have := HK2.out; have := HJ101.out; have := HJ103.out; have := HJ109.out; have := HJ116.out; first | omega | exact Nat.le_refl _⟩, ⟨by repeat (first | (with_reducible first | exact HB.out | apply below_alloc | apply pw_below_drewN | apply below_drew1) | exact HB.out)⟩⟩
                  ·as_aux_lemma =>
                   rw [if_neg c120] at H
                   have c120b0 : (t275 != (x45_116 == 0)) = false := by simpa using c120
                   (try (have c120b1 : decide (t275 = (x45_116 == 0)) = true := by simpa using c120))
                   (try (have c120b2 : (t275 == (x45_116 == 0)) = true := by simpa using c120))
                   clear c120
                   (first | rw [c120b0] | (simp only [i64_w, i32_w]; rw [c120b0]) | skip)
                   by_cases c121 : (wrap64 (a1 + x45_116)) ≤ 1000000000
                   ·as_aux_lemma =>
                    rw [if_pos c121] at H
                    have c121b0 : decide ((wrap64 (a1 + x45_116)) ≤ 1000000000) = true := decide_eq_true c121
                    clear c121
                    by_cases c122 : (wrap64 (a1 - x45_116)) ≥ 0
                    ·as_aux_lemma =>
                     rw [if_pos c122] at H
                     have c122b0 : decide (0 ≤ (wrap64 (a1 - x45_116))) = true := decide_eq_true c122
                     clear c122
                     have H' := Aside0.mk H
                     clear H
                     as_aux_lemma =>
                     go_wp2
                     repeat (go_quiet (fail); try go_wp2)
                     as_aux_lemma =>
                     go_meet
                     case rel => exact ⟨_, (decide (x45_116 > 0)), (by first | rfl | (simp; done) | (simp [*]; done)), H', ⟨by have := HJ17.out; have := HK2.out; have := HJ101.out; have := HJ103.out; have := HJ109.out; have := HJ116.out; first | omega | exact Nat.le_refl _⟩, ⟨by repeat (first | (with_reducible first | exact HB.out | apply below_alloc | apply pw_below_drewN | apply below_drew1) | exact HB.out)⟩⟩
                    ·as_aux_lemma =>
                     rw [if_neg c122] at H
                     have c122b0 : decide (0 ≤ (wrap64 (a1 - x45_116))) = false := decide_eq_false c122
                     clear c122
                     have H' := Aside0.mk H
                     clear H
                     as_aux_lemma =>
                     go_wp2
                     repeat (go_quiet (fail); try go_wp2)
                     as_aux_lemma =>
                     go_meet
                     case rel => exact ⟨_, (false), (by first | rfl | (simp; done) | (simp [*]; done)), H', ⟨by have := HJ17.out; have := HK2.out; have := HJ101.out; have := HJ103.out; have := HJ109.out; have := HJ116.out; first | omega | exact Nat.le_refl _⟩, ⟨by repeat (first | (with_reducible first | exact HB.out | apply below_alloc | apply pw_below_drewN | apply below_drew1) | exact HB.out)⟩⟩
                   ·as_aux_lemma =>
                    rw [if_neg c121] at H
                    have c121b0 : decide ((wrap64 (a1 + x45_116)) ≤ 1000000000) = false := decide_eq_false c121
                    clear c121
                    have H' := Aside0.mk H
                    clear H
                    as_aux_lemma =>
                    go_wp2
                    repeat (go_quiet (fail); try go_wp2)
                    as_aux_lemma =>
                    go_meet
                    case rel => exact ⟨_, (false), (by first | rfl | (simp; done) | (simp [*]; done)), H', ⟨by have := HJ17.out; have := HK2.out; have := HJ101.out; have := HJ103.out; have := HJ109.out; have := HJ116.out; first | omega | exact Nat.le_refl _⟩, ⟨by repeat (first | (with_reducible first | exact HB.out | apply below_alloc | apply pw_below_drewN | apply below_drew1) | exact HB.out)⟩⟩
                 case rest =>
                  as_aux_lemma =>
                  clear HC119
                  try clear c1
                  try clear p2
                  try clear c3
                  try clear c3b0
                  try clear c3b1
                  try clear p3
                  try clear q3
                  try clear hx3
                  try clear c4
                  try clear c5
                  try clear c6
                  try clear p6
                  try clear c7
                  try clear c8
                  try clear c9
                  try clear c10
                  try clear c11
                  try clear c12
                  try clear p31
                  try clear q31
                  try clear hx31
                  try clear c33
                  try clear c33b0
                  try clear c33b1
                  try clear c33b2
                  try clear c34
                  try clear c34b0
                  try clear c34b1
                  try clear c35
                  try clear c35b0
                  try clear c35b1
                  try clear c35b2
                  try clear c36
                  try clear c36b0
                  try clear c36b1
                  try clear c37
                  try clear c37b0
                  try clear c37b1
                  try clear c37b2
                  try clear c38
                  try clear c38b0
                  try clear c38b1
                  try clear c38b2
                  try clear c39
                  try clear c39b0
                  try clear c39b1
                  try clear c39b2
                  try clear c40
                  try clear c40b0
                  try clear c40b1
                  try clear c41
                  try clear c41b0
                  try clear c41b1
                  try clear c41b2
                  try clear c43
                  try clear c44
                  try clear c44b0
                  try clear c44b1
                  try clear c44b2
                  try clear c46
                  try clear c47
                  try clear c47b0
                  try clear c47b1
                  try clear c47b2
                  try clear c48
                  try clear c48b0
                  try clear c48b1
                  try clear c49
                  try clear c49b0
                  try clear c49b1
                  try clear c49b2
                  try clear c50
                  try clear c50b0
                  try clear c50b1
                  try clear c50b2
                  try clear c51
                  try clear c52
                  try clear c53
                  try clear c53b0
                  try clear c53b1
                  try clear c53b2
                  try clear c54
                  try clear c59
                  try clear c59b0
                  try clear c59b1
                  try clear c59b2
                  try clear c60
                  try clear p64
                  try clear c65
                  try clear c65b0
                  try clear c65b1
                  try clear c65b2
                  try clear c70
                  try clear c71
                  try clear c74
                  try clear c75
                  try clear c76
                  try clear c76b0
                  try clear c76b1
                  try clear c77
                  try clear c77b0
                  try clear c77b1
                  try clear c78
                  try clear c78b0
                  try clear c78b1
                  try clear c80
                  try clear c80b0
                  try clear c80b1
                  try clear c81
                  try clear c81b0
                  try clear c86
                  try clear c86b0
                  try clear c87
                  try clear c87b0
                  try clear c88
                  try clear c88b0
                  try clear c90
                  try clear c90b0
                  try clear c91
                  try clear c91b0
                  try clear c92
                  try clear c92b0
                  try clear c94
                  try clear c94b0
                  try clear c95
                  try clear c95b0
                  try clear c96
                  try clear c96b0
                  try clear c97
                  try clear c99
                  try clear c100
                  try clear c103
                  try clear c105
                  try clear c107
                  try clear c108
                  try clear c108b0
                  try clear c108b1
                  try clear c111
                  try clear c113
                  try clear c114
                  try clear c114b0
                  try clear c114b1
                  try clear c116
                  try clear c118
                  try clear c118b0
                  try clear c120
                  try clear c120b0
                  try clear c120b1
                  try clear c120b2
                  try clear c121
                  try clear c121b0
                  try clear c122
                  try clear c122b0
                  try clear hx310_0
                  try clear hx311_0
                  try clear hx312_0
                  try clear p2
                  try clear p3
                  try clear p31
                  try clear p310
                  try clear p311
                  try clear p312
                  try clear p6
                  try clear p64
                  try clear q3
                  try clear q31
                  try clear q310
                  try clear q311
                  try clear q312
                  obtain ⟨kq, x388_118, rfl, HA, HJ118, HB⟩ := hcut
                  cases kq with
                  | zero => exact absurd HA.out (by simp [laws_FnWheelsTurnOfAll.j7])
                  | succ kj118 =>
                   have H := HA.out
                   clear HA
                   simp only [laws_FnWheelsTurnOfAll.j7] at H
                   by_cases c123 : x388_118 = true
                   ·subst c123
                    have H1 : ((impl_IsSpoke.f kj118 l0 (wrap64 (a1 - x45_116))).bind fun bt319 => ((impl_IsSpoke.f kj118 l0 (wrap64 (a1 + x45_116))).bind fun bt321 => (if t275 = true then (none) else (if bt319.2 = true then (if bt321.2 = true then (if bt319.1 = true then (if t279 > a1 then (none) else (some true)) else (if bt321.1 = true then (if t279 > a1 then (some true) else (some true)) else (none))) else (none)) else (none))))) = some r := by rw [if_pos rfl] at H; exact H
                    clear H
                    have H := H1
                    clear H1
                    replace H := Option.bind_eq_some_iff.mp H
                    obtain ⟨⟨t319, t320⟩, A1240, H⟩ := H
                    replace H : ((impl_IsSpoke.f kj118 l0 (wrap64 (a1 + x45_116))).bind fun bt321 => (if t275 = true then (none) else (if t320 = true then (if bt321.2 = true then (if t319 = true then (if t279 > a1 then (none) else (some true)) else (if bt321.1 = true then (if t279 > a1 then (some true) else (some true)) else (none))) else (none)) else (none)))) = some r := H
                    have A124 := Aside0.mk A1240
                    clear A1240
                    replace H := Option.bind_eq_some_iff.mp H
                    obtain ⟨⟨t321, t322⟩, A1250, H⟩ := H
                    replace H : (if t275 = true then (none) else (if t320 = true then (if t322 = true then (if t319 = true then (if t279 > a1 then (none) else (some true)) else (if t321 = true then (if t279 > a1 then (some true) else (some true)) else (none))) else (none)) else (none))) = some r := H
                    have A125 := Aside0.mk A1250
                    clear A1250
                    have c126 : ¬ (t275 = true) := fun c126 => by
                     subst c126
                     have H1 : (none) = some r := by rw [if_pos rfl] at H; exact H
                     clear H
                     have H := H1
                     clear H1
                     exact absurd H (by simp)
                    replace c126 := Bool.eq_false_iff.mpr c126
                    subst c126
                    have H1 : (if t320 = true then (if t322 = true then (if t319 = true then (if t279 > a1 then (none) else (some true)) else (if t321 = true then (if t279 > a1 then (some true) else (some true)) else (none))) else (none)) else (none)) = some r := by rw [if_neg (show ¬ (false = true) by decide)] at H; exact H
                    clear H
                    have H := H1
                    clear H1
                    have c127 : t320 = true := Classical.byContradiction fun c127 => by
                     replace c127 := Bool.eq_false_iff.mpr c127
                     subst c127
                     have H1 : (none) = some r := by rw [if_neg (show ¬ (false = true) by decide)] at H; exact H
                     clear H
                     have H := H1
                     clear H1
                     exact absurd H (by simp)
                    subst c127
                    have H1 : (if t322 = true then (if t319 = true then (if t279 > a1 then (none) else (some true)) else (if t321 = true then (if t279 > a1 then (some true) else (some true)) else (none))) else (none)) = some r := by rw [if_pos rfl] at H; exact H
                    clear H
                    have H := H1
                    clear H1
                    have c128 : t322 = true := Classical.byContradiction fun c128 => by
                     replace c128 := Bool.eq_false_iff.mpr c128
                     subst c128
                     have H1 : (none) = some r := by rw [if_neg (show ¬ (false = true) by decide)] at H; exact H
                     clear H
                     have H := H1
                     clear H1
                     exact absurd H (by simp)
                    subst c128
                    have H1 : (if t319 = true then (if t279 > a1 then (none) else (some true)) else (if t321 = true then (if t279 > a1 then (some true) else (some true)) else (none))) = some r := by rw [if_pos rfl] at H; exact H
                    clear H
                    have H := H1
                    clear H1
                    by_cases c129 : t319 = true
                    ·subst c129
                     have H1 : (if t279 > a1 then (none) else (some true)) = some r := by rw [if_pos rfl] at H; exact H
                     clear H
                     have H := H1
                     clear H1
                     have c130 : ¬ (t279 > a1) := fun c130 => by
                      rw [if_pos c130] at H
                      exact absurd H (by simp)
                     rw [if_neg c130] at H
                     have c130b0 : decide (a1 < t279) = false := decide_eq_false c130
                     clear c130
                     obtain rfl := Option.some.inj H
                     as_aux_lemma =>
                     go_wp2_with (first | (go_at_call 11; (with_reducible refine (impl_IsSpoke.calls kj118 _ _ l0 (wrap64 (a1 - x45_116)) true true _ ?side1 ?side2 A124.out).mono ?_); (case side1 => repeat (first | exact (Kd.C_below HR0.out HB.out) | (with_reducible refine Kd.C_alloc ?_ _) | (with_reducible refine Kd.C_drewN ?_ _) | (with_reducible refine Kd.C_drew ?_))); (case side2 => exact HC0.out); rintro e w131 ⟨rfl, hb⟩; have n0_ := Aside0.mk (below_step (by repeat (first | (with_reducible first | exact HB.out | apply below_alloc | apply pw_below_drewN | apply below_drew1) | exact HB.out)) hb); clear HB; have HB := n0_; clear n0_; (try clear hb); (try clear hb2); (try clear hk); (try clear hi)))
                     as_aux_lemma =>
                     go_wp2_with (first | (go_at_call 11; (with_reducible refine (impl_IsSpoke.calls kj118 _ _ l0 (wrap64 (a1 + x45_116)) t321 true _ ?side1 ?side2 A125.out).mono ?_); (case side1 => repeat (first | exact (Kd.C_below HR0.out HB.out) | (with_reducible refine Kd.C_alloc ?_ _) | (with_reducible refine Kd.C_drewN ?_ _) | (with_reducible refine Kd.C_drew ?_))); (case side2 => exact HC0.out); rintro e w132 ⟨rfl, hb⟩; have n0_ := Aside0.mk (below_step (by repeat (first | (with_reducible first | exact HB.out | apply below_alloc | apply pw_below_drewN | apply below_drew1) | exact HB.out)) hb); clear HB; have HB := n0_; clear n0_; (try clear hb); (try clear hb2); (try clear hk); (try clear hi)))
                     repeat (go_quiet (first | (go_at_call 11; (with_reducible refine (impl_IsSpoke.calls kj118 _ _ l0 (wrap64 (a1 - x45_116)) true true _ ?side1 ?side2 A124.out).mono ?_); (case side1 => repeat (first | exact (Kd.C_below HR0.out HB.out) | (with_reducible refine Kd.C_alloc ?_ _) | (with_reducible refine Kd.C_drewN ?_ _) | (with_reducible refine Kd.C_drew ?_))); (case side2 => exact HC0.out); rintro e w131 ⟨rfl, hb⟩; have n0_ := Aside0.mk (below_step (by repeat (first | (with_reducible first | exact HB.out | apply below_alloc | apply pw_below_drewN | apply below_drew1) | exact HB.out)) hb); clear HB; have HB := n0_; clear n0_; (try clear hb); (try clear hb2); (try clear hk); (try clear hi)) | (go_at_call 11; (with_reducible refine (impl_IsSpoke.calls kj118 _ _ l0 (wrap64 (a1 + x45_116)) t321 true _ ?side1 ?side2 A125.out).mono ?_); (case side1 => repeat (first | exact (Kd.C_below HR0.out HB.out) | (with_reducible refine Kd.C_alloc ?_ _) | (with_reducible refine Kd.C_drewN ?_ _) | (with_reducible refine Kd.C_drew ?_))); (case side2 => exact HC0.out); rintro e w132 ⟨rfl, hb⟩; have n0_ := Aside0.mk (below_step (by repeat (first | (with_reducible first | exact HB.out | apply below_alloc | apply pw_below_drewN | apply below_drew1) | exact HB.out)) hb); clear HB; have HB := n0_; clear n0_; (try clear hb); (try clear hb2); (try clear hk); (try clear hi))); try go_wp2_with (first | (go_at_call 11; (with_reducible refine (impl_IsSpoke.calls kj118 _ _ l0 (wrap64 (a1 - x45_116)) true true _ ?side1 ?side2 A124.out).mono ?_); (case side1 => repeat (first | exact (Kd.C_below HR0.out HB.out) | (with_reducible refine Kd.C_alloc ?_ _) | (with_reducible refine Kd.C_drewN ?_ _) | (with_reducible refine Kd.C_drew ?_))); (case side2 => exact HC0.out); rintro e w131 ⟨rfl, hb⟩; have n0_ := Aside0.mk (below_step (by repeat (first | (with_reducible first | exact HB.out | apply below_alloc | apply pw_below_drewN | apply below_drew1) | exact HB.out)) hb); clear HB; have HB := n0_; clear n0_; (try clear hb); (try clear hb2); (try clear hk); (try clear hi)) | (go_at_call 11; (with_reducible refine (impl_IsSpoke.calls kj118 _ _ l0 (wrap64 (a1 + x45_116)) t321 true _ ?side1 ?side2 A125.out).mono ?_); (case side1 => repeat (first | exact (Kd.C_below HR0.out HB.out) | (with_reducible refine Kd.C_alloc ?_ _) | (with_reducible refine Kd.C_drewN ?_ _) | (with_reducible refine Kd.C_drew ?_))); (case side2 => exact HC0.out); rintro e w132 ⟨rfl, hb⟩; have n0_ := Aside0.mk (below_step (by repeat (first | (with_reducible first | exact HB.out | apply below_alloc | apply pw_below_drewN | apply below_drew1) | exact HB.out)) hb); clear HB; have HB := n0_; clear n0_; (try clear hb); (try clear hb2); (try clear hk); (try clear hi))))
                     go_ret
                     exact ⟨by first | rfl | (simp [errW_none, errW_some] <;> rfl) | (simp [*, errW_none, errW_some] <;> rfl), by repeat (first | (with_reducible first | exact HB.out | apply below_alloc | apply pw_below_drewN | apply below_drew1) | exact HB.out)⟩
                    ·replace c129 := Bool.eq_false_iff.mpr c129
                     subst c129
                     have H1 : (if t321 = true then (if t279 > a1 then (some true) else (some true)) else (none)) = some r := by rw [if_neg (show ¬ (false = true) by decide)] at H; exact H
                     clear H
                     have H := H1
                     clear H1
                     have c133 : t321 = true := Classical.byContradiction fun c133 => by
                      replace c133 := Bool.eq_false_iff.mpr c133
                      subst c133
                      have H1 : (none) = some r := by rw [if_neg (show ¬ (false = true) by decide)] at H; exact H
                      clear H
                      have H := H1
                      clear H1
                      exact absurd H (by simp)
                     subst c133
                     have H1 : (if t279 > a1 then (some true) else (some true)) = some r := by rw [if_pos rfl] at H; exact H
                     clear H
                     have H := H1
                     clear H1
                     by_cases c134 : t279 > a1
                     ·as_aux_lemma =>
                      rw [if_pos c134] at H
                      have c134b0 : decide (a1 < t279) = true := decide_eq_true c134
                      clear c134
                      obtain rfl := Option.some.inj H
                      as_aux_lemma =>
                      go_wp2_with (first | (go_at_call 11; (with_reducible refine (impl_IsSpoke.calls kj118 _ _ l0 (wrap64 (a1 - x45_116)) false true _ ?side1 ?side2 A124.out).mono ?_); (case side1 => repeat (first | exact (Kd.C_below HR0.out HB.out) | (with_reducible refine Kd.C_alloc ?_ _) | (with_reducible refine Kd.C_drewN ?_ _) | (with_reducible refine Kd.C_drew ?_))); (case side2 => exact HC0.out); rintro e w135 ⟨rfl, hb⟩; have n0_ := Aside0.mk (below_step (by repeat (first | (with_reducible first | exact HB.out | apply below_alloc | apply pw_below_drewN | apply below_drew1) | exact HB.out)) hb); clear HB; have HB := n0_; clear n0_; (try clear hb); (try clear hb2); (try clear hk); (try clear hi)))
                      as_aux_lemma =>
                      go_wp2_with (first | (go_at_call 11; (with_reducible refine (impl_IsSpoke.calls kj118 _ _ l0 (wrap64 (a1 + x45_116)) true true _ ?side1 ?side2 A125.out).mono ?_); (case side1 => repeat (first | exact (Kd.C_below HR0.out HB.out) | (with_reducible refine Kd.C_alloc ?_ _) | (with_reducible refine Kd.C_drewN ?_ _) | (with_reducible refine Kd.C_drew ?_))); (case side2 => exact HC0.out); rintro e w136 ⟨rfl, hb⟩; have n0_ := Aside0.mk (below_step (by repeat (first | (with_reducible first | exact HB.out | apply below_alloc | apply pw_below_drewN | apply below_drew1) | exact HB.out)) hb); clear HB; have HB := n0_; clear n0_; (try clear hb); (try clear hb2); (try clear hk); (try clear hi)))
                      repeat (go_quiet (first | (go_at_call 11; (with_reducible refine (impl_IsSpoke.calls kj118 _ _ l0 (wrap64 (a1 - x45_116)) false true _ ?side1 ?side2 A124.out).mono ?_); (case side1 => repeat (first | exact (Kd.C_below HR0.out HB.out) | (with_reducible refine Kd.C_alloc ?_ _) | (with_reducible refine Kd.C_drewN ?_ _) | (with_reducible refine Kd.C_drew ?_))); (case side2 => exact HC0.out); rintro e w135 ⟨rfl, hb⟩; have n0_ := Aside0.mk (below_step (by repeat (first | (with_reducible first | exact HB.out | apply below_alloc | apply pw_below_drewN | apply below_drew1) | exact HB.out)) hb); clear HB; have HB := n0_; clear n0_; (try clear hb); (try clear hb2); (try clear hk); (try clear hi)) | (go_at_call 11; (with_reducible refine (impl_IsSpoke.calls kj118 _ _ l0 (wrap64 (a1 + x45_116)) true true _ ?side1 ?side2 A125.out).mono ?_); (case side1 => repeat (first | exact (Kd.C_below HR0.out HB.out) | (with_reducible refine Kd.C_alloc ?_ _) | (with_reducible refine Kd.C_drewN ?_ _) | (with_reducible refine Kd.C_drew ?_))); (case side2 => exact HC0.out); rintro e w136 ⟨rfl, hb⟩; have n0_ := Aside0.mk (below_step (by repeat (first | (with_reducible first | exact HB.out | apply below_alloc | apply pw_below_drewN | apply below_drew1) | exact HB.out)) hb); clear HB; have HB := n0_; clear n0_; (try clear hb); (try clear hb2); (try clear hk); (try clear hi))); try go_wp2_with (first | (go_at_call 11; (with_reducible refine (impl_IsSpoke.calls kj118 _ _ l0 (wrap64 (a1 - x45_116)) false true _ ?side1 ?side2 A124.out).mono ?_); (case side1 => repeat (first | exact (Kd.C_below HR0.out HB.out) | (with_reducible refine Kd.C_alloc ?_ _) | (with_reducible refine Kd.C_drewN ?_ _) | (with_reducible refine Kd.C_drew ?_))); (case side2 => exact HC0.out); rintro e w135 ⟨rfl, hb⟩; have n0_ := Aside0.mk (below_step (by repeat (first | (with_reducible first | exact HB.out | apply below_alloc | apply pw_below_drewN | apply below_drew1) | exact HB.out)) hb); clear HB; have HB := n0_; clear n0_; (try clear hb); (try clear hb2); (try clear hk); (try clear hi)) | (go_at_call 11; (with_reducible refine (impl_IsSpoke.calls kj118 _ _ l0 (wrap64 (a1 + x45_116)) true true _ ?side1 ?side2 A125.out).mono ?_); (case side1 => repeat (first | exact (Kd.C_below HR0.out HB.out) | (with_reducible refine Kd.C_alloc ?_ _) | (with_reducible refine Kd.C_drewN ?_ _) | (with_reducible refine Kd.C_drew ?_))); (case side2 => exact HC0.out); rintro e w136 ⟨rfl, hb⟩; have n0_ := Aside0.mk (below_step (by repeat (first | (with_reducible first | exact HB.out | apply below_alloc | apply pw_below_drewN | apply below_drew1) | exact HB.out)) hb); clear HB; have HB := n0_; clear n0_; (try clear hb); (try clear hb2); (try clear hk); (try clear hi))))
                      go_ret
                      exact ⟨by first | rfl | (simp [errW_none, errW_some] <;> rfl) | (simp [*, errW_none, errW_some] <;> rfl), by repeat (first | (with_reducible first | exact HB.out | apply below_alloc | apply pw_below_drewN | apply below_drew1) | exact HB.out)⟩
                     ·as_aux_lemma =>
                      rw [if_neg c134] at H
                      have c134b0 : decide (a1 < t279) = false := decide_eq_false c134
                      clear c134
                      obtain rfl := Option.some.inj H
                      as_aux_lemma =>
                      go_wp2_with (first | (go_at_call 11; (with_reducible refine (impl_IsSpoke.calls kj118 _ _ l0 (wrap64 (a1 - x45_116)) false true _ ?side1 ?side2 A124.out).mono ?_); (case side1 => repeat (first | exact (Kd.C_below HR0.out HB.out) | (with_reducible refine Kd.C_alloc ?_ _) | (with_reducible refine Kd.C_drewN ?_ _) | (with_reducible refine Kd.C_drew ?_))); (case side2 => exact HC0.out); rintro e w137 ⟨rfl, hb⟩; have n0_ := Aside0.mk (below_step (by repeat (first | (with_reducible first | exact HB.out | apply below_alloc | apply pw_below_drewN | apply below_drew1) | exact HB.out)) hb); clear HB; have HB := n0_; clear n0_; (try clear hb); (try clear hb2); (try clear hk); (try clear hi)))
                      as_aux_lemma =>
                      go_wp2_with (first | (go_at_call 11; (with_reducible refine (impl_IsSpoke.calls kj118 _ _ l0 (wrap64 (a1 + x45_116)) true true _ ?side1 ?side2 A125.out).mono ?_); (case side1 => repeat (first | exact (Kd.C_below HR0.out HB.out) | (with_reducible refine Kd.C_alloc ?_ _) | (with_reducible refine Kd.C_drewN ?_ _) | (with_reducible refine Kd.C_drew ?_))); (case side2 => exact HC0.out); rintro e w138 ⟨rfl, hb⟩; have n0_ := Aside0.mk (below_step (by repeat (first | (with_reducible first | exact HB.out | apply below_alloc | apply pw_below_drewN | apply below_drew1) | exact HB.out)) hb); clear HB; have HB := n0_; clear n0_; (try clear hb); (try clear hb2); (try clear hk); (try clear hi)))
                      repeat (go_quiet (first | (go_at_call 11; (with_reducible refine (impl_IsSpoke.calls kj118 _ _ l0 (wrap64 (a1 - x45_116)) false true _ ?side1 ?side2 A124.out).mono ?_); (case side1 => repeat (first | exact (Kd.C_below HR0.out HB.out) | (with_reducible refine Kd.C_alloc ?_ _) | (with_reducible refine Kd.C_drewN ?_ _) | (with_reducible refine Kd.C_drew ?_))); (case side2 => exact HC0.out); rintro e w137 ⟨rfl, hb⟩; have n0_ := Aside0.mk (below_step (by repeat (first | (with_reducible first | exact HB.out | apply below_alloc | apply pw_below_drewN | apply below_drew1) | exact HB.out)) hb); clear HB; have HB := n0_; clear n0_; (try clear hb); (try clear hb2); (try clear hk); (try clear hi)) | (go_at_call 11; (with_reducible refine (impl_IsSpoke.calls kj118 _ _ l0 (wrap64 (a1 + x45_116)) true true _ ?side1 ?side2 A125.out).mono ?_); (case side1 => repeat (first | exact (Kd.C_below HR0.out HB.out) | (with_reducible refine Kd.C_alloc ?_ _) | (with_reducible refine Kd.C_drewN ?_ _) | (with_reducible refine Kd.C_drew ?_))); (case side2 => exact HC0.out); rintro e w138 ⟨rfl, hb⟩; have n0_ := Aside0.mk (below_step (by repeat (first | (with_reducible first | exact HB.out | apply below_alloc | apply pw_below_drewN | apply below_drew1) | exact HB.out)) hb); clear HB; have HB := n0_; clear n0_; (try clear hb); (try clear hb2); (try clear hk); (try clear hi))); try go_wp2_with (first | (go_at_call 11; (with_reducible refine (impl_IsSpoke.calls kj118 _ _ l0 (wrap64 (a1 - x45_116)) false true _ ?side1 ?side2 A124.out).mono ?_); (case side1 => repeat (first | exact (Kd.C_below HR0.out HB.out) | (with_reducible refine Kd.C_alloc ?_ _) | (with_reducible refine Kd.C_drewN ?_ _) | (with_reducible refine Kd.C_drew ?_))); (case side2 => exact HC0.out); rintro e w137 ⟨rfl, hb⟩; have n0_ := Aside0.mk (below_step (by repeat (first | (with_reducible first | exact HB.out | apply below_alloc | apply pw_below_drewN | apply below_drew1) | exact HB.out)) hb); clear HB; have HB := n0_; clear n0_; (try clear hb); (try clear hb2); (try clear hk); (try clear hi)) | (go_at_call 11; (with_reducible refine (impl_IsSpoke.calls kj118 _ _ l0 (wrap64 (a1 + x45_116)) true true _ ?side1 ?side2 A125.out).mono ?_); (case side1 => repeat (first | exact (Kd.C_below HR0.out HB.out) | (with_reducible refine Kd.C_alloc ?_ _) | (with_reducible refine Kd.C_drewN ?_ _) | (with_reducible refine Kd.C_drew ?_))); (case side2 => exact HC0.out); rintro e w138 ⟨rfl, hb⟩; have n0_ := Aside0.mk (below_step (by repeat (first | (with_reducible first | exact HB.out | apply below_alloc | apply pw_below_drewN | apply below_drew1) | exact HB.out)) hb); clear HB; have HB := n0_; clear n0_; (try clear hb); (try clear hb2); (try clear hk); (try clear hi))))
                      go_ret
                      exact ⟨by first | rfl | (simp [errW_none, errW_some] <;> rfl) | (simp [*, errW_none, errW_some] <;> rfl), by repeat (first | (with_reducible first | exact HB.out | apply below_alloc | apply pw_below_drewN | apply below_drew1) | exact HB.out)⟩
                   ·replace c123 := Bool.eq_false_iff.mpr c123
                    subst c123
                    have H1 : (some true) = some r := by rw [if_neg (show ¬ (false = true) by decide)] at H; exact H
                    clear H
                    have H := H1
                    clear H1
                    obtain rfl := Option.some.inj H
                    as_aux_lemma =>
                    go_wp2
                    repeat (go_quiet (fail); try go_wp2)
                    go_ret
                    exact ⟨by first | rfl | (simp [errW_none, errW_some] <;> rfl) | (simp [*, errW_none, errW_some] <;> rfl), by repeat (first | (with_reducible first | exact HB.out | apply below_alloc | apply pw_below_drewN | apply below_drew1) | exact HB.out)⟩
              ·replace c116 := Bool.eq_false_iff.mpr c116
               subst c116
               have H1 : (some true) = some r := by rw [if_neg (show ¬ (false = true) by decide)] at H; exact H
               clear H
               have H := H1
               clear H1
               obtain rfl := Option.some.inj H
               as_aux_lemma =>
               go_wp2
               repeat (go_quiet (fail); try go_wp2)
               go_ret
               exact ⟨by first | rfl | (simp [errW_none, errW_some] <;> rfl) | (simp [*, errW_none, errW_some] <;> rfl), by repeat (first | (with_reducible first | exact HB.out | apply below_alloc | apply pw_below_drewN | apply below_drew1) | exact HB.out)⟩
    ·replace c71 := Bool.eq_false_iff.mpr c71
     subst c71
     have H1 : (some true) = some r := by rw [if_neg (show ¬ (false = true) by decide)] at H; exact H
     clear H
     have H := H1
     clear H1
     obtain rfl := Option.some.inj H
     as_aux_lemma =>
     go_wp2
     repeat (go_quiet (fail); try go_wp2)
     go_ret
     exact ⟨by first | rfl | (simp [errW_none, errW_some] <;> rfl) | (simp [*, errW_none, errW_some] <;> rfl), by repeat (first | (with_reducible first | exact HB.out | apply below_alloc | apply pw_below_drewN | apply below_drew1) | exact HB.out)⟩

/-- THE ONE PURE STATEMENT of laws_FnWheelsTurnOfAll: yours. -/
def laws_FnWheelsTurnOfAll.Pure : Prop := ∀ (l0 : List (S45)) (a1 : Int), l0.length ≤ maxLen → l0.length * 16 ≤ 140737488351232 → (∀ x ∈ l0, (Lit.int .i64 x.f0).wf = true ∧ (Lit.int .i64 x.f1).wf = true) → (Lit.int .i64 a1).wf = true → ∃ k, laws_FnWheelsTurnOfAll.f k l0 a1 = some true
theorem laws_FnWheelsTurnOfAll.walk (P : laws_FnWheelsTurnOfAll.Pure) (a0 : Option Addr) (len0 cap0 : Nat) (l0 : List (S45)) (a1 : Int) (w : World) (w0 : l0.length = len0 ∧ len0 ≤ cap0 ∧ Kd.C k45 w a0 len0 l0 ∧ (∀ x ∈ l0, (Lit.int .i64 x.f0).wf = true ∧ (Lit.int .i64 x.f1).wf = true)) (y0 : len0 * 16 ≤ 140737488351232) (w1 : (Lit.int .i64 a1).wf = true) :
  Calls Try.prog 3 #[.slice a0 len0 cap0, .int .i64 a1] w fun e w' => e = .returned (.bool true) ∧ Below w.heap.size w w' := by
 obtain ⟨rfl, hc0, hr0, hw0⟩ := w0
 have hm0 : l0.length ≤ maxLen := by unfold maxLen; exact Kd.C_max hr0
 obtain ⟨k, h⟩ := P l0 a1 hm0 y0 hw0 w1
 refine (laws_FnWheelsTurnOfAll.calls k _ _ l0 a1 true w hr0 hc0 h).mono ?_
 rintro e w' ⟨rfl, hd⟩
 exact ⟨rfl, hd⟩

end Go.Proofs.Ytdaodlhcedjfoaa.P
