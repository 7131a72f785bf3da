-- Printed for this claim by a program of this session, out of the translation. Lean checks it.
import Derived.Test.YtdaodlhcedjfoaaPx0
import Derived.Test.YtdaodlhcedjfoaaPx5
import Derived.Test.YtdaodlhcedjfoaaPx9
import Derived.Test.YtdaodlhcedjfoaaPx10
import Derived.Test.YtdaodlhcedjfoaaPx11
import Derived.Test.YtdaodlhcedjfoaaPx12
import Derived.Test.YtdaodlhcedjfoaaPx13
import Derived.Test.YtdaodlhcedjfoaaPx14
import Derived.Test.YtdaodlhcedjfoaaPx15
import Derived.Test.YtdaodlhcedjfoaaPx17
import Derived.Test.YtdaodlhcedjfoaaPx18
import Derived.Test.YtdaodlhcedjfoaaPx19
import Derived.Test.YtdaodlhcedjfoaaPx20
import Derived.Test.YtdaodlhcedjfoaaPx25
-- SLIM
namespace Go.Proofs.Ytdaodlhcedjfoaa.P
open Go.RowKit Go.Proofs.YtdaodlhcedjfoaaW.PrintWords Go.Proofs.YtdaodlhcedjfoaaW.PrintLast Go.Proofs.YtdaodlhcedjfoaaW.PrintMore
attribute [local go_sem] max2_int min2_int max_two min_two max_three min_three max_four min_four   -- for this text's walks alone
set_option linter.unusedVariables false
set_option linter.unusedSimpArgs false

/-! ### laws_FnWheelsTurn: function 4 -/
mutual
def laws_FnWheelsTurn.j0 : Nat → List (S45) → Int → Int → Bool → Int → Bool → Bool → Int → Bool → List Int → Bool → List Int → Int → Bool → Option (Bool)
 | 0, _, _, _, _, _, _, _, _, _, _, _, _, _, _ => none
 | k + 1, x5, x6, x7, x8, x11, x12, x15, x19, x20, x23, x24, x27, x31, x241 => if x241 = true then (none) else (if x24 = true then ((impl_PeriodOfRules.f k x5).bind fun bt412 => ((impl_LeftInPeriod.f k x5).bind fun bt414 => (if bt412.2 = true then (if bt414.2 = true then (if bt414.1 = x31 then (if (x23.length : Int) = x31 then (if (x27.length : Int) = x31 then ((laws_gSum.f k x27).bind fun t416 => (if t416 = bt412.1 then (if x31 < 1 then (none) else (laws_FnWheelsTurn.l0 k x5 x6 x7 x8 x11 x12 x15 x19 x20 x23 x27 bt412.1 x23 (x23.length : Int) 0)) else (none))) else (none)) else (none)) else (none)) else (none)) else (none)))) else (some true))
def laws_FnWheelsTurn.l0 : Nat → List (S45) → Int → Int → Bool → Int → Bool → Bool → Int → Bool → List Int → List Int → Int → List Int → Int → Int → Option (Bool)
 | 0, _, _, _, _, _, _, _, _, _, _, _, _, _, _, _ => none
 | k + 1, x5, x6, x7, x8, x11, x12, x15, x19, x20, x23, x27, x35, x287, x288, x289 => if x289 < x288 then (if 0 ≤ x289 then (if x289 < (x287.length : Int) then (if (rd x287 x289) < 1 then (none) else (if (rd x287 x289) > x35 then (none) else (if x289 > 0 then (if 0 ≤ (wrap64 (x289 - 1)) then (if (wrap64 (x289 - 1)) < (x23.length : Int) then (if (wrap64 (x289 - 1)) < (x27.length : Int) then (laws_FnWheelsTurn.j2 k x5 x6 x7 x8 x11 x12 x15 x19 x20 x23 x27 x35 (rd x287 x289) x287 x288 x289 ((wrap64 ((rd x287 x289) - (rd x23 (wrap64 (x289 - 1))))) != (rd x27 (wrap64 (x289 - 1))))) else (none)) else (none)) else (none)) else (laws_FnWheelsTurn.j2 k x5 x6 x7 x8 x11 x12 x15 x19 x20 x23 x27 x35 (rd x287 x289) x287 x288 x289 false)))) else (none)) else (none)) else (if x8 = true then (laws_FnWheelsTurn.j3 k x5 x6 x7 x11 x12 x15 x19 x20 (decide (x7 ≤ 1000000000))) else (laws_FnWheelsTurn.j3 k x5 x6 x7 x11 x12 x15 x19 x20 false))
def laws_FnWheelsTurn.j2 : Nat → List (S45) → Int → Int → Bool → Int → Bool → Bool → Int → Bool → List Int → List Int → Int → Int → List Int → Int → Int → Bool → Option (Bool)
 | 0, _, _, _, _, _, _, _, _, _, _, _, _, _, _, _, _, _ => none
 | k + 1, x5, x6, x7, x8, x11, x12, x15, x19, x20, x23, x27, x35, x40, x287, x288, x289, x319 => if x319 = true then (none) else ((impl_IsSpoke.f k x5 (wrap64 (x40 + (wrap64 (3 * x35))))).bind fun bt420 => (if bt420.2 = true then (if bt420.1 = true then (laws_FnWheelsTurn.l0 k x5 x6 x7 x8 x11 x12 x15 x19 x20 x23 x27 x35 x287 x288 (wrap64 (x289 + 1))) else (none)) else (none)))
def laws_FnWheelsTurn.j3 : Nat → List (S45) → Int → Int → Int → Bool → Bool → Int → Bool → Bool → Option (Bool)
 | 0, _, _, _, _, _, _, _, _, _ => none
 | k + 1, x5, x6, x7, x11, x12, x15, x19, x20, x340 => if x340 = true then ((impl_RankOfSpoke.f k x5 x7).bind fun bt422 => (if bt422.2 = true then (if bt422.1 = x6 then (laws_FnWheelsTurn.j4 k x5 x6 x11 x12 x15 x19 x20) else (none)) else (none))) else (laws_FnWheelsTurn.j4 k x5 x6 x11 x12 x15 x19 x20)
def laws_FnWheelsTurn.j4 : Nat → List (S45) → Int → Int → Bool → Bool → Int → Bool → Option (Bool)
 | 0, _, _, _, _, _, _, _ => none
 | k + 1, x5, x6, x11, x12, x15, x19, x20 => if x12 = true then ((impl_SpokeOfRank.f k x5 x11).bind fun bt424 => (if bt424.2 = true then (if bt424.1 = x6 then (laws_FnWheelsTurn.j5 k x5 x6 x15 x19 x20) else (none)) else (none))) else (laws_FnWheelsTurn.j5 k x5 x6 x15 x19 x20)
def laws_FnWheelsTurn.j5 : Nat → List (S45) → Int → Bool → Int → Bool → Option (Bool)
 | 0, _, _, _, _, _ => none
 | k + 1, x5, x6, x15, x19, x20 => if x20 = true then (if (wrap64 (x19 - x6)) < 0 then (laws_FnWheelsTurn.j6 k x5 x6 x15 x19 (wrap64 (-(wrap64 (x19 - x6))))) else (laws_FnWheelsTurn.j6 k x5 x6 x15 x19 (wrap64 (x19 - x6)))) else (some true)
def laws_FnWheelsTurn.j6 : Nat → List (S45) → Int → Bool → Int → Int → Option (Bool)
 | 0, _, _, _, _, _ => none
 | k + 1, x5, x6, x15, x19, x47 => if (x15 != (x47 == 0)) = true then (laws_FnWheelsTurn.j7 k x5 x6 x15 x19 x47 true) else (if (wrap64 (x6 + x47)) ≤ 1000000000 then (if (wrap64 (x6 - x47)) ≥ 0 then (laws_FnWheelsTurn.j7 k x5 x6 x15 x19 x47 (decide (x47 > 0))) else (laws_FnWheelsTurn.j7 k x5 x6 x15 x19 x47 false)) else (laws_FnWheelsTurn.j7 k x5 x6 x15 x19 x47 false))
def laws_FnWheelsTurn.j7 : Nat → List (S45) → Int → Bool → Int → Int → Bool → Option (Bool)
 | 0, _, _, _, _, _, _ => none
 | k + 1, x5, x6, x15, x19, x47, x395 => if x395 = true then ((impl_IsSpoke.f k x5 (wrap64 (x6 - x47))).bind fun bt426 => ((impl_IsSpoke.f k x5 (wrap64 (x6 + x47))).bind fun bt428 => (if x15 = true then (none) else (if bt426.2 = true then (if bt428.2 = true then (if bt426.1 = true then (if x19 > x6 then (none) else (some true)) else (if bt428.1 = true then (if x19 > x6 then (some true) else (some true)) else (none))) else (none)) else (none))))) else (some true)
end
def laws_FnWheelsTurn.f (k : Nat) (l0 : List Int) (l1 : List Int) : Option (Bool) := (laws_big.f l0 l1).bind fun t369 => (if t369 = true then (some true) else ((spec_DrawSpokeOfRank.f k l0).bind fun bt370 => ((impl_SpokeOfRank.f k bt370.1 bt370.2).bind fun bt374 => ((spec_SpokeOfRank.f k bt370.1 bt370.2).bind fun bt376 => ((impl_RankOfSpoke.f k bt370.1 bt370.2).bind fun bt378 => ((spec_RankOfSpoke.f k bt370.1 bt370.2).bind fun bt380 => ((impl_IsSpoke.f k bt370.1 bt370.2).bind fun bt382 => ((spec_IsSpoke.f k bt370.1 bt370.2).bind fun bt384 => ((impl_SpokeNear.f k bt370.1 bt370.2).bind fun bt386 => ((spec_SpokeNear.f k bt370.1 bt370.2).bind fun bt388 => ((impl_SpokesOf.f k bt370.1).bind fun bt390 => ((spec_SpokesOf.f k bt370.1).bind fun bt394 => ((impl_StepsOf.f k bt370.1).bind fun bt398 => ((spec_StepsOf.f k bt370.1).bind fun bt402 => ((impl_CountSpokes.f k bt370.1).bind fun bt406 => ((spec_CountSpokes.f k bt370.1).bind fun bt408 => (if (bt374.2 != bt376.2) = true then (none) else (if bt374.1 = bt376.1 then (if (bt378.2 != bt380.2) = true then (none) else (if bt378.1 = bt380.1 then (if (bt382.2 != bt384.2) = true then (none) else (if (bt382.1 != bt384.1) = true then (none) else (if (bt386.2 != bt388.2) = true then (none) else (if bt386.1 = bt388.1 then (if (bt390.2 != bt394.2) = true then (none) else ((laws_gSame.f k bt390.1 bt394.1).bind fun t410 => (if t410 = true then (if (bt398.2 != bt402.2) = true then (none) else ((laws_gSame.f k bt398.1 bt402.1).bind fun t411 => (if t411 = true then (if (bt406.2 != bt408.2) = true then (none) else (if bt406.1 = bt408.1 then (if (bt398.2 != bt390.2) = true then (none) else (if (bt406.2 != bt390.2) = true then (none) else (if bt382.2 = true then (if bt382.1 = true then (if (bt378.2 != (decide (bt370.2 > 0))) = true then (none) else (if bt390.2 = true then (laws_FnWheelsTurn.j0 k bt370.1 bt370.2 bt374.1 bt374.2 bt378.1 bt378.2 bt382.1 bt386.1 bt386.2 bt390.1 bt390.2 bt398.1 bt406.1 (bt386.2 != bt382.2)) else (none))) else (if (bt378.2 != false) = true then (none) else (if bt390.2 = true then (laws_FnWheelsTurn.j0 k bt370.1 bt370.2 bt374.1 bt374.2 bt378.1 bt378.2 bt382.1 bt386.1 bt386.2 bt390.1 bt390.2 bt398.1 bt406.1 (bt386.2 != bt382.2)) else (none)))) else (if (bt378.2 != false) = true then (none) else (laws_FnWheelsTurn.j0 k bt370.1 bt370.2 bt374.1 bt374.2 bt378.1 bt378.2 bt382.1 bt386.1 bt386.2 bt390.1 bt390.2 bt398.1 bt406.1 (bt386.2 != bt382.2)))))) else (none))) else (none)))) else (none)))) else (none))))) else (none))) else (none)))))))))))))))))))
theorem laws_FnWheelsTurn.mono_l : ∀ k, (∀ y0 y1 y2 y3 y4 y5 y6 y7 y8 y9 y10 y11 y12 y13, LeO (laws_FnWheelsTurn.j0 k y0 y1 y2 y3 y4 y5 y6 y7 y8 y9 y10 y11 y12 y13) (laws_FnWheelsTurn.j0 (k + 1) y0 y1 y2 y3 y4 y5 y6 y7 y8 y9 y10 y11 y12 y13)) ∧ (∀ y0 y1 y2 y3 y4 y5 y6 y7 y8 y9 y10 y11 y12 y13 y14, LeO (laws_FnWheelsTurn.l0 k y0 y1 y2 y3 y4 y5 y6 y7 y8 y9 y10 y11 y12 y13 y14) (laws_FnWheelsTurn.l0 (k + 1) y0 y1 y2 y3 y4 y5 y6 y7 y8 y9 y10 y11 y12 y13 y14)) ∧ (∀ y0 y1 y2 y3 y4 y5 y6 y7 y8 y9 y10 y11 y12 y13 y14 y15 y16, LeO (laws_FnWheelsTurn.j2 k y0 y1 y2 y3 y4 y5 y6 y7 y8 y9 y10 y11 y12 y13 y14 y15 y16) (laws_FnWheelsTurn.j2 (k + 1) y0 y1 y2 y3 y4 y5 y6 y7 y8 y9 y10 y11 y12 y13 y14 y15 y16)) ∧ (∀ y0 y1 y2 y3 y4 y5 y6 y7 y8, LeO (laws_FnWheelsTurn.j3 k y0 y1 y2 y3 y4 y5 y6 y7 y8) (laws_FnWheelsTurn.j3 (k + 1) y0 y1 y2 y3 y4 y5 y6 y7 y8)) ∧ (∀ y0 y1 y2 y3 y4 y5 y6, LeO (laws_FnWheelsTurn.j4 k y0 y1 y2 y3 y4 y5 y6) (laws_FnWheelsTurn.j4 (k + 1) y0 y1 y2 y3 y4 y5 y6)) ∧ (∀ y0 y1 y2 y3 y4, LeO (laws_FnWheelsTurn.j5 k y0 y1 y2 y3 y4) (laws_FnWheelsTurn.j5 (k + 1) y0 y1 y2 y3 y4)) ∧ (∀ y0 y1 y2 y3 y4, LeO (laws_FnWheelsTurn.j6 k y0 y1 y2 y3 y4) (laws_FnWheelsTurn.j6 (k + 1) y0 y1 y2 y3 y4)) ∧ (∀ y0 y1 y2 y3 y4 y5, LeO (laws_FnWheelsTurn.j7 k y0 y1 y2 y3 y4 y5) (laws_FnWheelsTurn.j7 (k + 1) y0 y1 y2 y3 y4 y5))
 | 0 => ⟨fun _ _ _ _ _ _ _ _ _ _ _ _ _ _ r h => by simp [laws_FnWheelsTurn.j0] at h, fun _ _ _ _ _ _ _ _ _ _ _ _ _ _ _ r h => by simp [laws_FnWheelsTurn.l0] at h, fun _ _ _ _ _ _ _ _ _ _ _ _ _ _ _ _ _ r h => by simp [laws_FnWheelsTurn.j2] at h, fun _ _ _ _ _ _ _ _ _ r h => by simp [laws_FnWheelsTurn.j3] at h, fun _ _ _ _ _ _ _ r h => by simp [laws_FnWheelsTurn.j4] at h, fun _ _ _ _ _ r h => by simp [laws_FnWheelsTurn.j5] at h, fun _ _ _ _ _ r h => by simp [laws_FnWheelsTurn.j6] at h, fun _ _ _ _ _ _ r h => by simp [laws_FnWheelsTurn.j7] at h⟩
 | k + 1 => by
  obtain ⟨ih0, ih1, ih2, ih3, ih4, ih5, ih6, ih7⟩ := laws_FnWheelsTurn.mono_l k
  refine ⟨?_, ?_, ?_, ?_, ?_, ?_, ?_, ?_⟩
  ·intro y0 y1 y2 y3 y4 y5 y6 y7 y8 y9 y10 y11 y12 y13
   unfold laws_FnWheelsTurn.j0
   repeat' first
   | (with_reducible exact ih0 _ _ _ _ _ _ _ _ _ _ _ _ _ _)
   | (with_reducible exact ih1 _ _ _ _ _ _ _ _ _ _ _ _ _ _ _)
   | (with_reducible exact ih2 _ _ _ _ _ _ _ _ _ _ _ _ _ _ _ _ _)
   | (with_reducible exact ih3 _ _ _ _ _ _ _ _ _)
   | (with_reducible exact ih4 _ _ _ _ _ _ _)
   | (with_reducible exact ih5 _ _ _ _ _)
   | (with_reducible exact ih6 _ _ _ _ _)
   | (with_reducible exact ih7 _ _ _ _ _ _)
   | (with_reducible exact impl_CountSpokes.mono _ _)
   | (with_reducible exact impl_IsSpoke.mono _ _ _)
   | (with_reducible exact impl_LeftInPeriod.mono _ _)
   | (with_reducible exact impl_PeriodOfRules.mono _ _)
   | (with_reducible exact impl_RankOfSpoke.mono _ _ _)
   | (with_reducible exact impl_SpokeNear.mono _ _ _)
   | (with_reducible exact impl_SpokeOfRank.mono _ _ _)
   | (with_reducible exact impl_SpokesOf.mono _ _)
   | (with_reducible exact impl_StepsOf.mono _ _)
   | (with_reducible exact laws_gSame.mono _ _ _)
   | (with_reducible exact laws_gSum.mono _ _)
   | (with_reducible exact spec_CountSpokes.mono _ _)
   | (with_reducible exact spec_DrawSpokeOfRank.mono _ _)
   | (with_reducible exact spec_IsSpoke.mono _ _ _)
   | (with_reducible exact spec_RankOfSpoke.mono _ _ _)
   | (with_reducible exact spec_SpokeNear.mono _ _ _)
   | (with_reducible exact spec_SpokeOfRank.mono _ _ _)
   | (with_reducible exact spec_SpokesOf.mono _ _)
   | (with_reducible exact spec_StepsOf.mono _ _)
   | (with_reducible exact LeO.refl _)
   | (with_reducible exact LeO.none _)
   | (with_reducible refine LeO.ite ?_ ?_)
   | (with_reducible refine LeO.bind ?_ (fun _ => ?_))
   | exact ih0 _ _ _ _ _ _ _ _ _ _ _ _ _ _
   | exact ih1 _ _ _ _ _ _ _ _ _ _ _ _ _ _ _
   | exact ih2 _ _ _ _ _ _ _ _ _ _ _ _ _ _ _ _ _
   | exact ih3 _ _ _ _ _ _ _ _ _
   | exact ih4 _ _ _ _ _ _ _
   | exact ih5 _ _ _ _ _
   | exact ih6 _ _ _ _ _
   | exact ih7 _ _ _ _ _ _
   | exact impl_CountSpokes.mono _ _
   | exact impl_IsSpoke.mono _ _ _
   | exact impl_LeftInPeriod.mono _ _
   | exact impl_PeriodOfRules.mono _ _
   | exact impl_RankOfSpoke.mono _ _ _
   | exact impl_SpokeNear.mono _ _ _
   | exact impl_SpokeOfRank.mono _ _ _
   | exact impl_SpokesOf.mono _ _
   | exact impl_StepsOf.mono _ _
   | exact laws_gSame.mono _ _ _
   | exact laws_gSum.mono _ _
   | exact spec_CountSpokes.mono _ _
   | exact spec_DrawSpokeOfRank.mono _ _
   | exact spec_IsSpoke.mono _ _ _
   | exact spec_RankOfSpoke.mono _ _ _
   | exact spec_SpokeNear.mono _ _ _
   | exact spec_SpokeOfRank.mono _ _ _
   | exact spec_SpokesOf.mono _ _
   | exact spec_StepsOf.mono _ _
   | exact LeO.none _
   | refine LeO.ite ?_ ?_
   | refine LeO.bind ?_ (fun _ => ?_)
  ·intro y0 y1 y2 y3 y4 y5 y6 y7 y8 y9 y10 y11 y12 y13 y14
   unfold laws_FnWheelsTurn.l0
   repeat' first
   | (with_reducible exact ih0 _ _ _ _ _ _ _ _ _ _ _ _ _ _)
   | (with_reducible exact ih1 _ _ _ _ _ _ _ _ _ _ _ _ _ _ _)
   | (with_reducible exact ih2 _ _ _ _ _ _ _ _ _ _ _ _ _ _ _ _ _)
   | (with_reducible exact ih3 _ _ _ _ _ _ _ _ _)
   | (with_reducible exact ih4 _ _ _ _ _ _ _)
   | (with_reducible exact ih5 _ _ _ _ _)
   | (with_reducible exact ih6 _ _ _ _ _)
   | (with_reducible exact ih7 _ _ _ _ _ _)
   | (with_reducible exact impl_CountSpokes.mono _ _)
   | (with_reducible exact impl_IsSpoke.mono _ _ _)
   | (with_reducible exact impl_LeftInPeriod.mono _ _)
   | (with_reducible exact impl_PeriodOfRules.mono _ _)
   | (with_reducible exact impl_RankOfSpoke.mono _ _ _)
   | (with_reducible exact impl_SpokeNear.mono _ _ _)
   | (with_reducible exact impl_SpokeOfRank.mono _ _ _)
   | (with_reducible exact impl_SpokesOf.mono _ _)
   | (with_reducible exact impl_StepsOf.mono _ _)
   | (with_reducible exact laws_gSame.mono _ _ _)
   | (with_reducible exact laws_gSum.mono _ _)
   | (with_reducible exact spec_CountSpokes.mono _ _)
   | (with_reducible exact spec_DrawSpokeOfRank.mono _ _)
   | (with_reducible exact spec_IsSpoke.mono _ _ _)
   | (with_reducible exact spec_RankOfSpoke.mono _ _ _)
   | (with_reducible exact spec_SpokeNear.mono _ _ _)
   | (with_reducible exact spec_SpokeOfRank.mono _ _ _)
   | (with_reducible exact spec_SpokesOf.mono _ _)
   | (with_reducible exact spec_StepsOf.mono _ _)
   | (with_reducible exact LeO.refl _)
   | (with_reducible exact LeO.none _)
   | (with_reducible refine LeO.ite ?_ ?_)
   | (with_reducible refine LeO.bind ?_ (fun _ => ?_))
   | exact ih0 _ _ _ _ _ _ _ _ _ _ _ _ _ _
   | exact ih1 _ _ _ _ _ _ _ _ _ _ _ _ _ _ _
   | exact ih2 _ _ _ _ _ _ _ _ _ _ _ _ _ _ _ _ _
   | exact ih3 _ _ _ _ _ _ _ _ _
   | exact ih4 _ _ _ _ _ _ _
   | exact ih5 _ _ _ _ _
   | exact ih6 _ _ _ _ _
   | exact ih7 _ _ _ _ _ _
   | exact impl_CountSpokes.mono _ _
   | exact impl_IsSpoke.mono _ _ _
   | exact impl_LeftInPeriod.mono _ _
   | exact impl_PeriodOfRules.mono _ _
   | exact impl_RankOfSpoke.mono _ _ _
   | exact impl_SpokeNear.mono _ _ _
   | exact impl_SpokeOfRank.mono _ _ _
   | exact impl_SpokesOf.mono _ _
   | exact impl_StepsOf.mono _ _
   | exact laws_gSame.mono _ _ _
   | exact laws_gSum.mono _ _
   | exact spec_CountSpokes.mono _ _
   | exact spec_DrawSpokeOfRank.mono _ _
   | exact spec_IsSpoke.mono _ _ _
   | exact spec_RankOfSpoke.mono _ _ _
   | exact spec_SpokeNear.mono _ _ _
   | exact spec_SpokeOfRank.mono _ _ _
   | exact spec_SpokesOf.mono _ _
   | exact spec_StepsOf.mono _ _
   | exact LeO.none _
   | refine LeO.ite ?_ ?_
   | refine LeO.bind ?_ (fun _ => ?_)
  ·intro y0 y1 y2 y3 y4 y5 y6 y7 y8 y9 y10 y11 y12 y13 y14 y15 y16
   unfold laws_FnWheelsTurn.j2
   repeat' first
   | (with_reducible exact ih0 _ _ _ _ _ _ _ _ _ _ _ _ _ _)
   | (with_reducible exact ih1 _ _ _ _ _ _ _ _ _ _ _ _ _ _ _)
   | (with_reducible exact ih2 _ _ _ _ _ _ _ _ _ _ _ _ _ _ _ _ _)
   | (with_reducible exact ih3 _ _ _ _ _ _ _ _ _)
   | (with_reducible exact ih4 _ _ _ _ _ _ _)
   | (with_reducible exact ih5 _ _ _ _ _)
   | (with_reducible exact ih6 _ _ _ _ _)
   | (with_reducible exact ih7 _ _ _ _ _ _)
   | (with_reducible exact impl_CountSpokes.mono _ _)
   | (with_reducible exact impl_IsSpoke.mono _ _ _)
   | (with_reducible exact impl_LeftInPeriod.mono _ _)
   | (with_reducible exact impl_PeriodOfRules.mono _ _)
   | (with_reducible exact impl_RankOfSpoke.mono _ _ _)
   | (with_reducible exact impl_SpokeNear.mono _ _ _)
   | (with_reducible exact impl_SpokeOfRank.mono _ _ _)
   | (with_reducible exact impl_SpokesOf.mono _ _)
   | (with_reducible exact impl_StepsOf.mono _ _)
   | (with_reducible exact laws_gSame.mono _ _ _)
   | (with_reducible exact laws_gSum.mono _ _)
   | (with_reducible exact spec_CountSpokes.mono _ _)
   | (with_reducible exact spec_DrawSpokeOfRank.mono _ _)
   | (with_reducible exact spec_IsSpoke.mono _ _ _)
   | (with_reducible exact spec_RankOfSpoke.mono _ _ _)
   | (with_reducible exact spec_SpokeNear.mono _ _ _)
   | (with_reducible exact spec_SpokeOfRank.mono _ _ _)
   | (with_reducible exact spec_SpokesOf.mono _ _)
   | (with_reducible exact spec_StepsOf.mono _ _)
   | (with_reducible exact LeO.refl _)
   | (with_reducible exact LeO.none _)
   | (with_reducible refine LeO.ite ?_ ?_)
   | (with_reducible refine LeO.bind ?_ (fun _ => ?_))
   | exact ih0 _ _ _ _ _ _ _ _ _ _ _ _ _ _
   | exact ih1 _ _ _ _ _ _ _ _ _ _ _ _ _ _ _
   | exact ih2 _ _ _ _ _ _ _ _ _ _ _ _ _ _ _ _ _
   | exact ih3 _ _ _ _ _ _ _ _ _
   | exact ih4 _ _ _ _ _ _ _
   | exact ih5 _ _ _ _ _
   | exact ih6 _ _ _ _ _
   | exact ih7 _ _ _ _ _ _
   | exact impl_CountSpokes.mono _ _
   | exact impl_IsSpoke.mono _ _ _
   | exact impl_LeftInPeriod.mono _ _
   | exact impl_PeriodOfRules.mono _ _
   | exact impl_RankOfSpoke.mono _ _ _
   | exact impl_SpokeNear.mono _ _ _
   | exact impl_SpokeOfRank.mono _ _ _
   | exact impl_SpokesOf.mono _ _
   | exact impl_StepsOf.mono _ _
   | exact laws_gSame.mono _ _ _
   | exact laws_gSum.mono _ _
   | exact spec_CountSpokes.mono _ _
   | exact spec_DrawSpokeOfRank.mono _ _
   | exact spec_IsSpoke.mono _ _ _
   | exact spec_RankOfSpoke.mono _ _ _
   | exact spec_SpokeNear.mono _ _ _
   | exact spec_SpokeOfRank.mono _ _ _
   | exact spec_SpokesOf.mono _ _
   | exact spec_StepsOf.mono _ _
   | exact LeO.none _
   | refine LeO.ite ?_ ?_
   | refine LeO.bind ?_ (fun _ => ?_)
  ·intro y0 y1 y2 y3 y4 y5 y6 y7 y8
   unfold laws_FnWheelsTurn.j3
   repeat' first
   | (with_reducible exact ih0 _ _ _ _ _ _ _ _ _ _ _ _ _ _)
   | (with_reducible exact ih1 _ _ _ _ _ _ _ _ _ _ _ _ _ _ _)
   | (with_reducible exact ih2 _ _ _ _ _ _ _ _ _ _ _ _ _ _ _ _ _)
   | (with_reducible exact ih3 _ _ _ _ _ _ _ _ _)
   | (with_reducible exact ih4 _ _ _ _ _ _ _)
   | (with_reducible exact ih5 _ _ _ _ _)
   | (with_reducible exact ih6 _ _ _ _ _)
   | (with_reducible exact ih7 _ _ _ _ _ _)
   | (with_reducible exact impl_CountSpokes.mono _ _)
   | (with_reducible exact impl_IsSpoke.mono _ _ _)
   | (with_reducible exact impl_LeftInPeriod.mono _ _)
   | (with_reducible exact impl_PeriodOfRules.mono _ _)
   | (with_reducible exact impl_RankOfSpoke.mono _ _ _)
   | (with_reducible exact impl_SpokeNear.mono _ _ _)
   | (with_reducible exact impl_SpokeOfRank.mono _ _ _)
   | (with_reducible exact impl_SpokesOf.mono _ _)
   | (with_reducible exact impl_StepsOf.mono _ _)
   | (with_reducible exact laws_gSame.mono _ _ _)
   | (with_reducible exact laws_gSum.mono _ _)
   | (with_reducible exact spec_CountSpokes.mono _ _)
   | (with_reducible exact spec_DrawSpokeOfRank.mono _ _)
   | (with_reducible exact spec_IsSpoke.mono _ _ _)
   | (with_reducible exact spec_RankOfSpoke.mono _ _ _)
   | (with_reducible exact spec_SpokeNear.mono _ _ _)
   | (with_reducible exact spec_SpokeOfRank.mono _ _ _)
   | (with_reducible exact spec_SpokesOf.mono _ _)
   | (with_reducible exact spec_StepsOf.mono _ _)
   | (with_reducible exact LeO.refl _)
   | (with_reducible exact LeO.none _)
   | (with_reducible refine LeO.ite ?_ ?_)
   | (with_reducible refine LeO.bind ?_ (fun _ => ?_))
   | exact ih0 _ _ _ _ _ _ _ _ _ _ _ _ _ _
   | exact ih1 _ _ _ _ _ _ _ _ _ _ _ _ _ _ _
   | exact ih2 _ _ _ _ _ _ _ _ _ _ _ _ _ _ _ _ _
   | exact ih3 _ _ _ _ _ _ _ _ _
   | exact ih4 _ _ _ _ _ _ _
   | exact ih5 _ _ _ _ _
   | exact ih6 _ _ _ _ _
   | exact ih7 _ _ _ _ _ _
   | exact impl_CountSpokes.mono _ _
   | exact impl_IsSpoke.mono _ _ _
   | exact impl_LeftInPeriod.mono _ _
   | exact impl_PeriodOfRules.mono _ _
   | exact impl_RankOfSpoke.mono _ _ _
   | exact impl_SpokeNear.mono _ _ _
   | exact impl_SpokeOfRank.mono _ _ _
   | exact impl_SpokesOf.mono _ _
   | exact impl_StepsOf.mono _ _
   | exact laws_gSame.mono _ _ _
   | exact laws_gSum.mono _ _
   | exact spec_CountSpokes.mono _ _
   | exact spec_DrawSpokeOfRank.mono _ _
   | exact spec_IsSpoke.mono _ _ _
   | exact spec_RankOfSpoke.mono _ _ _
   | exact spec_SpokeNear.mono _ _ _
   | exact spec_SpokeOfRank.mono _ _ _
   | exact spec_SpokesOf.mono _ _
   | exact spec_StepsOf.mono _ _
   | exact LeO.none _
   | refine LeO.ite ?_ ?_
   | refine LeO.bind ?_ (fun _ => ?_)
  ·intro y0 y1 y2 y3 y4 y5 y6
   unfold laws_FnWheelsTurn.j4
   repeat' first
   | (with_reducible exact ih0 _ _ _ _ _ _ _ _ _ _ _ _ _ _)
   | (with_reducible exact ih1 _ _ _ _ _ _ _ _ _ _ _ _ _ _ _)
   | (with_reducible exact ih2 _ _ _ _ _ _ _ _ _ _ _ _ _ _ _ _ _)
   | (with_reducible exact ih3 _ _ _ _ _ _ _ _ _)
   | (with_reducible exact ih4 _ _ _ _ _ _ _)
   | (with_reducible exact ih5 _ _ _ _ _)
   | (with_reducible exact ih6 _ _ _ _ _)
   | (with_reducible exact ih7 _ _ _ _ _ _)
   | (with_reducible exact impl_CountSpokes.mono _ _)
   | (with_reducible exact impl_IsSpoke.mono _ _ _)
   | (with_reducible exact impl_LeftInPeriod.mono _ _)
   | (with_reducible exact impl_PeriodOfRules.mono _ _)
   | (with_reducible exact impl_RankOfSpoke.mono _ _ _)
   | (with_reducible exact impl_SpokeNear.mono _ _ _)
   | (with_reducible exact impl_SpokeOfRank.mono _ _ _)
   | (with_reducible exact impl_SpokesOf.mono _ _)
   | (with_reducible exact impl_StepsOf.mono _ _)
   | (with_reducible exact laws_gSame.mono _ _ _)
   | (with_reducible exact laws_gSum.mono _ _)
   | (with_reducible exact spec_CountSpokes.mono _ _)
   | (with_reducible exact spec_DrawSpokeOfRank.mono _ _)
   | (with_reducible exact spec_IsSpoke.mono _ _ _)
   | (with_reducible exact spec_RankOfSpoke.mono _ _ _)
   | (with_reducible exact spec_SpokeNear.mono _ _ _)
   | (with_reducible exact spec_SpokeOfRank.mono _ _ _)
   | (with_reducible exact spec_SpokesOf.mono _ _)
   | (with_reducible exact spec_StepsOf.mono _ _)
   | (with_reducible exact LeO.refl _)
   | (with_reducible exact LeO.none _)
   | (with_reducible refine LeO.ite ?_ ?_)
   | (with_reducible refine LeO.bind ?_ (fun _ => ?_))
   | exact ih0 _ _ _ _ _ _ _ _ _ _ _ _ _ _
   | exact ih1 _ _ _ _ _ _ _ _ _ _ _ _ _ _ _
   | exact ih2 _ _ _ _ _ _ _ _ _ _ _ _ _ _ _ _ _
   | exact ih3 _ _ _ _ _ _ _ _ _
   | exact ih4 _ _ _ _ _ _ _
   | exact ih5 _ _ _ _ _
   | exact ih6 _ _ _ _ _
   | exact ih7 _ _ _ _ _ _
   | exact impl_CountSpokes.mono _ _
   | exact impl_IsSpoke.mono _ _ _
   | exact impl_LeftInPeriod.mono _ _
   | exact impl_PeriodOfRules.mono _ _
   | exact impl_RankOfSpoke.mono _ _ _
   | exact impl_SpokeNear.mono _ _ _
   | exact impl_SpokeOfRank.mono _ _ _
   | exact impl_SpokesOf.mono _ _
   | exact impl_StepsOf.mono _ _
   | exact laws_gSame.mono _ _ _
   | exact laws_gSum.mono _ _
   | exact spec_CountSpokes.mono _ _
   | exact spec_DrawSpokeOfRank.mono _ _
   | exact spec_IsSpoke.mono _ _ _
   | exact spec_RankOfSpoke.mono _ _ _
   | exact spec_SpokeNear.mono _ _ _
   | exact spec_SpokeOfRank.mono _ _ _
   | exact spec_SpokesOf.mono _ _
   | exact spec_StepsOf.mono _ _
   | exact LeO.none _
   | refine LeO.ite ?_ ?_
   | refine LeO.bind ?_ (fun _ => ?_)
  ·intro y0 y1 y2 y3 y4
   unfold laws_FnWheelsTurn.j5
   repeat' first
   | (with_reducible exact ih0 _ _ _ _ _ _ _ _ _ _ _ _ _ _)
   | (with_reducible exact ih1 _ _ _ _ _ _ _ _ _ _ _ _ _ _ _)
   | (with_reducible exact ih2 _ _ _ _ _ _ _ _ _ _ _ _ _ _ _ _ _)
   | (with_reducible exact ih3 _ _ _ _ _ _ _ _ _)
   | (with_reducible exact ih4 _ _ _ _ _ _ _)
   | (with_reducible exact ih5 _ _ _ _ _)
   | (with_reducible exact ih6 _ _ _ _ _)
   | (with_reducible exact ih7 _ _ _ _ _ _)
   | (with_reducible exact impl_CountSpokes.mono _ _)
   | (with_reducible exact impl_IsSpoke.mono _ _ _)
   | (with_reducible exact impl_LeftInPeriod.mono _ _)
   | (with_reducible exact impl_PeriodOfRules.mono _ _)
   | (with_reducible exact impl_RankOfSpoke.mono _ _ _)
   | (with_reducible exact impl_SpokeNear.mono _ _ _)
   | (with_reducible exact impl_SpokeOfRank.mono _ _ _)
   | (with_reducible exact impl_SpokesOf.mono _ _)
   | (with_reducible exact impl_StepsOf.mono _ _)
   | (with_reducible exact laws_gSame.mono _ _ _)
   | (with_reducible exact laws_gSum.mono _ _)
   | (with_reducible exact spec_CountSpokes.mono _ _)
   | (with_reducible exact spec_DrawSpokeOfRank.mono _ _)
   | (with_reducible exact spec_IsSpoke.mono _ _ _)
   | (with_reducible exact spec_RankOfSpoke.mono _ _ _)
   | (with_reducible exact spec_SpokeNear.mono _ _ _)
   | (with_reducible exact spec_SpokeOfRank.mono _ _ _)
   | (with_reducible exact spec_SpokesOf.mono _ _)
   | (with_reducible exact spec_StepsOf.mono _ _)
   | (with_reducible exact LeO.refl _)
   | (with_reducible exact LeO.none _)
   | (with_reducible refine LeO.ite ?_ ?_)
   | (with_reducible refine LeO.bind ?_ (fun _ => ?_))
   | exact ih0 _ _ _ _ _ _ _ _ _ _ _ _ _ _
   | exact ih1 _ _ _ _ _ _ _ _ _ _ _ _ _ _ _
   | exact ih2 _ _ _ _ _ _ _ _ _ _ _ _ _ _ _ _ _
   | exact ih3 _ _ _ _ _ _ _ _ _
   | exact ih4 _ _ _ _ _ _ _
   | exact ih5 _ _ _ _ _
   | exact ih6 _ _ _ _ _
   | exact ih7 _ _ _ _ _ _
   | exact impl_CountSpokes.mono _ _
   | exact impl_IsSpoke.mono _ _ _
   | exact impl_LeftInPeriod.mono _ _
   | exact impl_PeriodOfRules.mono _ _
   | exact impl_RankOfSpoke.mono _ _ _
   | exact impl_SpokeNear.mono _ _ _
   | exact impl_SpokeOfRank.mono _ _ _
   | exact impl_SpokesOf.mono _ _
   | exact impl_StepsOf.mono _ _
   | exact laws_gSame.mono _ _ _
   | exact laws_gSum.mono _ _
   | exact spec_CountSpokes.mono _ _
   | exact spec_DrawSpokeOfRank.mono _ _
   | exact spec_IsSpoke.mono _ _ _
   | exact spec_RankOfSpoke.mono _ _ _
   | exact spec_SpokeNear.mono _ _ _
   | exact spec_SpokeOfRank.mono _ _ _
   | exact spec_SpokesOf.mono _ _
   | exact spec_StepsOf.mono _ _
   | exact LeO.none _
   | refine LeO.ite ?_ ?_
   | refine LeO.bind ?_ (fun _ => ?_)
  ·intro y0 y1 y2 y3 y4
   unfold laws_FnWheelsTurn.j6
   repeat' first
   | (with_reducible exact ih0 _ _ _ _ _ _ _ _ _ _ _ _ _ _)
   | (with_reducible exact ih1 _ _ _ _ _ _ _ _ _ _ _ _ _ _ _)
   | (with_reducible exact ih2 _ _ _ _ _ _ _ _ _ _ _ _ _ _ _ _ _)
   | (with_reducible exact ih3 _ _ _ _ _ _ _ _ _)
   | (with_reducible exact ih4 _ _ _ _ _ _ _)
   | (with_reducible exact ih5 _ _ _ _ _)
   | (with_reducible exact ih6 _ _ _ _ _)
   | (with_reducible exact ih7 _ _ _ _ _ _)
   | (with_reducible exact impl_CountSpokes.mono _ _)
   | (with_reducible exact impl_IsSpoke.mono _ _ _)
   | (with_reducible exact impl_LeftInPeriod.mono _ _)
   | (with_reducible exact impl_PeriodOfRules.mono _ _)
   | (with_reducible exact impl_RankOfSpoke.mono _ _ _)
   | (with_reducible exact impl_SpokeNear.mono _ _ _)
   | (with_reducible exact impl_SpokeOfRank.mono _ _ _)
   | (with_reducible exact impl_SpokesOf.mono _ _)
   | (with_reducible exact impl_StepsOf.mono _ _)
   | (with_reducible exact laws_gSame.mono _ _ _)
   | (with_reducible exact laws_gSum.mono _ _)
   | (with_reducible exact spec_CountSpokes.mono _ _)
   | (with_reducible exact spec_DrawSpokeOfRank.mono _ _)
   | (with_reducible exact spec_IsSpoke.mono _ _ _)
   | (with_reducible exact spec_RankOfSpoke.mono _ _ _)
   | (with_reducible exact spec_SpokeNear.mono _ _ _)
   | (with_reducible exact spec_SpokeOfRank.mono _ _ _)
   | (with_reducible exact spec_SpokesOf.mono _ _)
   | (with_reducible exact spec_StepsOf.mono _ _)
   | (with_reducible exact LeO.refl _)
   | (with_reducible exact LeO.none _)
   | (with_reducible refine LeO.ite ?_ ?_)
   | (with_reducible refine LeO.bind ?_ (fun _ => ?_))
   | exact ih0 _ _ _ _ _ _ _ _ _ _ _ _ _ _
   | exact ih1 _ _ _ _ _ _ _ _ _ _ _ _ _ _ _
   | exact ih2 _ _ _ _ _ _ _ _ _ _ _ _ _ _ _ _ _
   | exact ih3 _ _ _ _ _ _ _ _ _
   | exact ih4 _ _ _ _ _ _ _
   | exact ih5 _ _ _ _ _
   | exact ih6 _ _ _ _ _
   | exact ih7 _ _ _ _ _ _
   | exact impl_CountSpokes.mono _ _
   | exact impl_IsSpoke.mono _ _ _
   | exact impl_LeftInPeriod.mono _ _
   | exact impl_PeriodOfRules.mono _ _
   | exact impl_RankOfSpoke.mono _ _ _
   | exact impl_SpokeNear.mono _ _ _
   | exact impl_SpokeOfRank.mono _ _ _
   | exact impl_SpokesOf.mono _ _
   | exact impl_StepsOf.mono _ _
   | exact laws_gSame.mono _ _ _
   | exact laws_gSum.mono _ _
   | exact spec_CountSpokes.mono _ _
   | exact spec_DrawSpokeOfRank.mono _ _
   | exact spec_IsSpoke.mono _ _ _
   | exact spec_RankOfSpoke.mono _ _ _
   | exact spec_SpokeNear.mono _ _ _
   | exact spec_SpokeOfRank.mono _ _ _
   | exact spec_SpokesOf.mono _ _
   | exact spec_StepsOf.mono _ _
   | exact LeO.none _
   | refine LeO.ite ?_ ?_
   | refine LeO.bind ?_ (fun _ => ?_)
  ·intro y0 y1 y2 y3 y4 y5
   unfold laws_FnWheelsTurn.j7
   repeat' first
   | (with_reducible exact ih0 _ _ _ _ _ _ _ _ _ _ _ _ _ _)
   | (with_reducible exact ih1 _ _ _ _ _ _ _ _ _ _ _ _ _ _ _)
   | (with_reducible exact ih2 _ _ _ _ _ _ _ _ _ _ _ _ _ _ _ _ _)
   | (with_reducible exact ih3 _ _ _ _ _ _ _ _ _)
   | (with_reducible exact ih4 _ _ _ _ _ _ _)
   | (with_reducible exact ih5 _ _ _ _ _)
   | (with_reducible exact ih6 _ _ _ _ _)
   | (with_reducible exact ih7 _ _ _ _ _ _)
   | (with_reducible exact impl_CountSpokes.mono _ _)
   | (with_reducible exact impl_IsSpoke.mono _ _ _)
   | (with_reducible exact impl_LeftInPeriod.mono _ _)
   | (with_reducible exact impl_PeriodOfRules.mono _ _)
   | (with_reducible exact impl_RankOfSpoke.mono _ _ _)
   | (with_reducible exact impl_SpokeNear.mono _ _ _)
   | (with_reducible exact impl_SpokeOfRank.mono _ _ _)
   | (with_reducible exact impl_SpokesOf.mono _ _)
   | (with_reducible exact impl_StepsOf.mono _ _)
   | (with_reducible exact laws_gSame.mono _ _ _)
   | (with_reducible exact laws_gSum.mono _ _)
   | (with_reducible exact spec_CountSpokes.mono _ _)
   | (with_reducible exact spec_DrawSpokeOfRank.mono _ _)
   | (with_reducible exact spec_IsSpoke.mono _ _ _)
   | (with_reducible exact spec_RankOfSpoke.mono _ _ _)
   | (with_reducible exact spec_SpokeNear.mono _ _ _)
   | (with_reducible exact spec_SpokeOfRank.mono _ _ _)
   | (with_reducible exact spec_SpokesOf.mono _ _)
   | (with_reducible exact spec_StepsOf.mono _ _)
   | (with_reducible exact LeO.refl _)
   | (with_reducible exact LeO.none _)
   | (with_reducible refine LeO.ite ?_ ?_)
   | (with_reducible refine LeO.bind ?_ (fun _ => ?_))
   | exact ih0 _ _ _ _ _ _ _ _ _ _ _ _ _ _
   | exact ih1 _ _ _ _ _ _ _ _ _ _ _ _ _ _ _
   | exact ih2 _ _ _ _ _ _ _ _ _ _ _ _ _ _ _ _ _
   | exact ih3 _ _ _ _ _ _ _ _ _
   | exact ih4 _ _ _ _ _ _ _
   | exact ih5 _ _ _ _ _
   | exact ih6 _ _ _ _ _
   | exact ih7 _ _ _ _ _ _
   | exact impl_CountSpokes.mono _ _
   | exact impl_IsSpoke.mono _ _ _
   | exact impl_LeftInPeriod.mono _ _
   | exact impl_PeriodOfRules.mono _ _
   | exact impl_RankOfSpoke.mono _ _ _
   | exact impl_SpokeNear.mono _ _ _
   | exact impl_SpokeOfRank.mono _ _ _
   | exact impl_SpokesOf.mono _ _
   | exact impl_StepsOf.mono _ _
   | exact laws_gSame.mono _ _ _
   | exact laws_gSum.mono _ _
   | exact spec_CountSpokes.mono _ _
   | exact spec_DrawSpokeOfRank.mono _ _
   | exact spec_IsSpoke.mono _ _ _
   | exact spec_RankOfSpoke.mono _ _ _
   | exact spec_SpokeNear.mono _ _ _
   | exact spec_SpokeOfRank.mono _ _ _
   | exact spec_SpokesOf.mono _ _
   | exact spec_StepsOf.mono _ _
   | exact LeO.none _
   | refine LeO.ite ?_ ?_
   | refine LeO.bind ?_ (fun _ => ?_)
theorem laws_FnWheelsTurn.mono : ∀ a0 a1 k, LeO (laws_FnWheelsTurn.f k a0 a1) (laws_FnWheelsTurn.f (k + 1) a0 a1) := by
 intro a0 a1 k
 obtain ⟨ih0, ih1, ih2, ih3, ih4, ih5, ih6, ih7⟩ := laws_FnWheelsTurn.mono_l k
 unfold laws_FnWheelsTurn.f
 repeat' first
   | (with_reducible exact ih0 _ _ _ _ _ _ _ _ _ _ _ _ _ _)
   | (with_reducible exact ih1 _ _ _ _ _ _ _ _ _ _ _ _ _ _ _)
   | (with_reducible exact ih2 _ _ _ _ _ _ _ _ _ _ _ _ _ _ _ _ _)
   | (with_reducible exact ih3 _ _ _ _ _ _ _ _ _)
   | (with_reducible exact ih4 _ _ _ _ _ _ _)
   | (with_reducible exact ih5 _ _ _ _ _)
   | (with_reducible exact ih6 _ _ _ _ _)
   | (with_reducible exact ih7 _ _ _ _ _ _)
   | (with_reducible exact impl_CountSpokes.mono _ _)
   | (with_reducible exact impl_IsSpoke.mono _ _ _)
   | (with_reducible exact impl_LeftInPeriod.mono _ _)
   | (with_reducible exact impl_PeriodOfRules.mono _ _)
   | (with_reducible exact impl_RankOfSpoke.mono _ _ _)
   | (with_reducible exact impl_SpokeNear.mono _ _ _)
   | (with_reducible exact impl_SpokeOfRank.mono _ _ _)
   | (with_reducible exact impl_SpokesOf.mono _ _)
   | (with_reducible exact impl_StepsOf.mono _ _)
   | (with_reducible exact laws_gSame.mono _ _ _)
   | (with_reducible exact laws_gSum.mono _ _)
   | (with_reducible exact spec_CountSpokes.mono _ _)
   | (with_reducible exact spec_DrawSpokeOfRank.mono _ _)
   | (with_reducible exact spec_IsSpoke.mono _ _ _)
   | (with_reducible exact spec_RankOfSpoke.mono _ _ _)
   | (with_reducible exact spec_SpokeNear.mono _ _ _)
   | (with_reducible exact spec_SpokeOfRank.mono _ _ _)
   | (with_reducible exact spec_SpokesOf.mono _ _)
   | (with_reducible exact spec_StepsOf.mono _ _)
   | (with_reducible exact LeO.refl _)
   | (with_reducible exact LeO.none _)
   | (with_reducible refine LeO.ite ?_ ?_)
   | (with_reducible refine LeO.bind ?_ (fun _ => ?_))
   | exact ih0 _ _ _ _ _ _ _ _ _ _ _ _ _ _
   | exact ih1 _ _ _ _ _ _ _ _ _ _ _ _ _ _ _
   | exact ih2 _ _ _ _ _ _ _ _ _ _ _ _ _ _ _ _ _
   | exact ih3 _ _ _ _ _ _ _ _ _
   | exact ih4 _ _ _ _ _ _ _
   | exact ih5 _ _ _ _ _
   | exact ih6 _ _ _ _ _
   | exact ih7 _ _ _ _ _ _
   | exact impl_CountSpokes.mono _ _
   | exact impl_IsSpoke.mono _ _ _
   | exact impl_LeftInPeriod.mono _ _
   | exact impl_PeriodOfRules.mono _ _
   | exact impl_RankOfSpoke.mono _ _ _
   | exact impl_SpokeNear.mono _ _ _
   | exact impl_SpokeOfRank.mono _ _ _
   | exact impl_SpokesOf.mono _ _
   | exact impl_StepsOf.mono _ _
   | exact laws_gSame.mono _ _ _
   | exact laws_gSum.mono _ _
   | exact spec_CountSpokes.mono _ _
   | exact spec_DrawSpokeOfRank.mono _ _
   | exact spec_IsSpoke.mono _ _ _
   | exact spec_RankOfSpoke.mono _ _ _
   | exact spec_SpokeNear.mono _ _ _
   | exact spec_SpokeOfRank.mono _ _ _
   | exact spec_SpokesOf.mono _ _
   | exact spec_StepsOf.mono _ _
   | exact LeO.none _
   | refine LeO.ite ?_ ?_
   | refine LeO.bind ?_ (fun _ => ?_)
set_option maxHeartbeats 100000000 in
set_option maxRecDepth 100000 in
theorem laws_FnWheelsTurn.calls (k : Nat) (A0 : Option Addr) (c0 : Nat) (l0 : List Int) (A1 : Option Addr) (c1 : Nat) (l1 : List Int) (r : Bool) (w : World) (hr0 : Kd.C (Kd.int .u8) w A0 l0.length l0) (hc0 : l0.length ≤ c0) (hr1 : Kd.C (Kd.int .u8) w A1 l1.length l1) (hc1 : l1.length ≤ c1) (h : laws_FnWheelsTurn.f k l0 l1 = some r) :
  Calls Try.prog 4 #[.slice A0 l0.length c0, .slice A1 l1.length c1] w fun e w' => e = .returned (.bool r) ∧ Below w.heap.size w w' := by
 have HR0 := Aside0.mk hr0
 have HC0 := Aside0.mk hc0
 clear hr0 hc0
 have HR1 := Aside0.mk hr1
 have HC1 := Aside0.mk hc1
 clear hr1 hc1
 have HB := Aside0.mk (Below.refl w.heap.size w)
 have H : ((laws_big.f l0 l1).bind fun t369 => (if t369 = true then (some true) else ((spec_DrawSpokeOfRank.f k l0).bind fun bt370 => ((impl_SpokeOfRank.f k bt370.1 bt370.2).bind fun bt374 => ((spec_SpokeOfRank.f k bt370.1 bt370.2).bind fun bt376 => ((impl_RankOfSpoke.f k bt370.1 bt370.2).bind fun bt378 => ((spec_RankOfSpoke.f k bt370.1 bt370.2).bind fun bt380 => ((impl_IsSpoke.f k bt370.1 bt370.2).bind fun bt382 => ((spec_IsSpoke.f k bt370.1 bt370.2).bind fun bt384 => ((impl_SpokeNear.f k bt370.1 bt370.2).bind fun bt386 => ((spec_SpokeNear.f k bt370.1 bt370.2).bind fun bt388 => ((impl_SpokesOf.f k bt370.1).bind fun bt390 => ((spec_SpokesOf.f k bt370.1).bind fun bt394 => ((impl_StepsOf.f k bt370.1).bind fun bt398 => ((spec_StepsOf.f k bt370.1).bind fun bt402 => ((impl_CountSpokes.f k bt370.1).bind fun bt406 => ((spec_CountSpokes.f k bt370.1).bind fun bt408 => (if (bt374.2 != bt376.2) = true then (none) else (if bt374.1 = bt376.1 then (if (bt378.2 != bt380.2) = true then (none) else (if bt378.1 = bt380.1 then (if (bt382.2 != bt384.2) = true then (none) else (if (bt382.1 != bt384.1) = true then (none) else (if (bt386.2 != bt388.2) = true then (none) else (if bt386.1 = bt388.1 then (if (bt390.2 != bt394.2) = true then (none) else ((laws_gSame.f k bt390.1 bt394.1).bind fun t410 => (if t410 = true then (if (bt398.2 != bt402.2) = true then (none) else ((laws_gSame.f k bt398.1 bt402.1).bind fun t411 => (if t411 = true then (if (bt406.2 != bt408.2) = true then (none) else (if bt406.1 = bt408.1 then (if (bt398.2 != bt390.2) = true then (none) else (if (bt406.2 != bt390.2) = true then (none) else (if bt382.2 = true then (if bt382.1 = true then (if (bt378.2 != (decide (bt370.2 > 0))) = true then (none) else (if bt390.2 = true then (laws_FnWheelsTurn.j0 k bt370.1 bt370.2 bt374.1 bt374.2 bt378.1 bt378.2 bt382.1 bt386.1 bt386.2 bt390.1 bt390.2 bt398.1 bt406.1 (bt386.2 != bt382.2)) else (none))) else (if (bt378.2 != false) = true then (none) else (if bt390.2 = true then (laws_FnWheelsTurn.j0 k bt370.1 bt370.2 bt374.1 bt374.2 bt378.1 bt378.2 bt382.1 bt386.1 bt386.2 bt390.1 bt390.2 bt398.1 bt406.1 (bt386.2 != bt382.2)) else (none)))) else (if (bt378.2 != false) = true then (none) else (laws_FnWheelsTurn.j0 k bt370.1 bt370.2 bt374.1 bt374.2 bt378.1 bt378.2 bt382.1 bt386.1 bt386.2 bt390.1 bt390.2 bt398.1 bt406.1 (bt386.2 != bt382.2)))))) else (none))) else (none)))) else (none)))) else (none))))) else (none))) else (none)))))))))))))))))))) = some r := h
 clear h
 replace H := Option.bind_eq_some_iff.mp H
 obtain ⟨t369, A30, H⟩ := H
 replace H : (if t369 = true then (some true) else ((spec_DrawSpokeOfRank.f k l0).bind fun bt370 => ((impl_SpokeOfRank.f k bt370.1 bt370.2).bind fun bt374 => ((spec_SpokeOfRank.f k bt370.1 bt370.2).bind fun bt376 => ((impl_RankOfSpoke.f k bt370.1 bt370.2).bind fun bt378 => ((spec_RankOfSpoke.f k bt370.1 bt370.2).bind fun bt380 => ((impl_IsSpoke.f k bt370.1 bt370.2).bind fun bt382 => ((spec_IsSpoke.f k bt370.1 bt370.2).bind fun bt384 => ((impl_SpokeNear.f k bt370.1 bt370.2).bind fun bt386 => ((spec_SpokeNear.f k bt370.1 bt370.2).bind fun bt388 => ((impl_SpokesOf.f k bt370.1).bind fun bt390 => ((spec_SpokesOf.f k bt370.1).bind fun bt394 => ((impl_StepsOf.f k bt370.1).bind fun bt398 => ((spec_StepsOf.f k bt370.1).bind fun bt402 => ((impl_CountSpokes.f k bt370.1).bind fun bt406 => ((spec_CountSpokes.f k bt370.1).bind fun bt408 => (if (bt374.2 != bt376.2) = true then (none) else (if bt374.1 = bt376.1 then (if (bt378.2 != bt380.2) = true then (none) else (if bt378.1 = bt380.1 then (if (bt382.2 != bt384.2) = true then (none) else (if (bt382.1 != bt384.1) = true then (none) else (if (bt386.2 != bt388.2) = true then (none) else (if bt386.1 = bt388.1 then (if (bt390.2 != bt394.2) = true then (none) else ((laws_gSame.f k bt390.1 bt394.1).bind fun t410 => (if t410 = true then (if (bt398.2 != bt402.2) = true then (none) else ((laws_gSame.f k bt398.1 bt402.1).bind fun t411 => (if t411 = true then (if (bt406.2 != bt408.2) = true then (none) else (if bt406.1 = bt408.1 then (if (bt398.2 != bt390.2) = true then (none) else (if (bt406.2 != bt390.2) = true then (none) else (if bt382.2 = true then (if bt382.1 = true then (if (bt378.2 != (decide (bt370.2 > 0))) = true then (none) else (if bt390.2 = true then (laws_FnWheelsTurn.j0 k bt370.1 bt370.2 bt374.1 bt374.2 bt378.1 bt378.2 bt382.1 bt386.1 bt386.2 bt390.1 bt390.2 bt398.1 bt406.1 (bt386.2 != bt382.2)) else (none))) else (if (bt378.2 != false) = true then (none) else (if bt390.2 = true then (laws_FnWheelsTurn.j0 k bt370.1 bt370.2 bt374.1 bt374.2 bt378.1 bt378.2 bt382.1 bt386.1 bt386.2 bt390.1 bt390.2 bt398.1 bt406.1 (bt386.2 != bt382.2)) else (none)))) else (if (bt378.2 != false) = true then (none) else (laws_FnWheelsTurn.j0 k bt370.1 bt370.2 bt374.1 bt374.2 bt378.1 bt378.2 bt382.1 bt386.1 bt386.2 bt390.1 bt390.2 bt398.1 bt406.1 (bt386.2 != bt382.2)))))) else (none))) else (none)))) else (none)))) else (none))))) else (none))) else (none))))))))))))))))))) = some r := H
 have A3 := Aside0.mk A30
 clear A30
 by_cases c4 : t369 = true
 ·subst c4
  have H1 : (some true) = some r := by rw [if_pos rfl] at H; exact H
  clear H
  have H := H1
  clear H1
  obtain rfl := Option.some.inj H
  as_aux_lemma =>
  go_enter Try.func4, Try.ntmps4
  as_aux_lemma =>
  go_wp2_with (first | (go_at_call 25; (with_reducible refine (laws_big.calls _ _ l0 _ _ l1 true _ ?side1 ?side2 ?side3 ?side4 A3.out).mono ?_); (case side1 => repeat (first | exact HR0.out | (with_reducible refine Kd.C_alloc ?_ _) | (with_reducible refine Kd.C_drewN ?_ _) | (with_reducible refine Kd.C_drew ?_))); (case side2 => exact HC0.out); (case side3 => repeat (first | exact HR1.out | (with_reducible refine Kd.C_alloc ?_ _) | (with_reducible refine Kd.C_drewN ?_ _) | (with_reducible refine Kd.C_drew ?_))); (case side4 => exact HC1.out); rintro e w' ⟨rfl, ⟨nd, rfl⟩⟩; (try first | exact ⟨rfl, _, World.drewN_drewN _ _ _⟩ | exact ⟨rfl, _, Eq.trans (World.drewN_drewN _ _ _) (congrArg (World.drewN _) (Nat.add_assoc _ _ _))⟩)))
  repeat (go_quiet (first | (go_at_call 25; (with_reducible refine (laws_big.calls _ _ l0 _ _ l1 true _ ?side1 ?side2 ?side3 ?side4 A3.out).mono ?_); (case side1 => repeat (first | exact HR0.out | (with_reducible refine Kd.C_alloc ?_ _) | (with_reducible refine Kd.C_drewN ?_ _) | (with_reducible refine Kd.C_drew ?_))); (case side2 => exact HC0.out); (case side3 => repeat (first | exact HR1.out | (with_reducible refine Kd.C_alloc ?_ _) | (with_reducible refine Kd.C_drewN ?_ _) | (with_reducible refine Kd.C_drew ?_))); (case side4 => exact HC1.out); rintro e w' ⟨rfl, ⟨nd, rfl⟩⟩; (try first | exact ⟨rfl, _, World.drewN_drewN _ _ _⟩ | exact ⟨rfl, _, Eq.trans (World.drewN_drewN _ _ _) (congrArg (World.drewN _) (Nat.add_assoc _ _ _))⟩))); try go_wp2_with (first | (go_at_call 25; (with_reducible refine (laws_big.calls _ _ l0 _ _ l1 true _ ?side1 ?side2 ?side3 ?side4 A3.out).mono ?_); (case side1 => repeat (first | exact HR0.out | (with_reducible refine Kd.C_alloc ?_ _) | (with_reducible refine Kd.C_drewN ?_ _) | (with_reducible refine Kd.C_drew ?_))); (case side2 => exact HC0.out); (case side3 => repeat (first | exact HR1.out | (with_reducible refine Kd.C_alloc ?_ _) | (with_reducible refine Kd.C_drewN ?_ _) | (with_reducible refine Kd.C_drew ?_))); (case side4 => exact HC1.out); rintro e w' ⟨rfl, ⟨nd, rfl⟩⟩; (try first | exact ⟨rfl, _, World.drewN_drewN _ _ _⟩ | exact ⟨rfl, _, Eq.trans (World.drewN_drewN _ _ _) (congrArg (World.drewN _) (Nat.add_assoc _ _ _))⟩))))
  go_ret
  exact ⟨by first | rfl | (simp [errW_none, errW_some] <;> rfl) | (simp [*, errW_none, errW_some] <;> rfl), by repeat (first | (with_reducible first | exact HB.out | apply below_alloc | apply pw_below_drewN | apply below_drew1) | exact HB.out)⟩
 ·replace c4 := Bool.eq_false_iff.mpr c4
  subst c4
  have H1 : ((spec_DrawSpokeOfRank.f k l0).bind fun bt370 => ((impl_SpokeOfRank.f k bt370.1 bt370.2).bind fun bt374 => ((spec_SpokeOfRank.f k bt370.1 bt370.2).bind fun bt376 => ((impl_RankOfSpoke.f k bt370.1 bt370.2).bind fun bt378 => ((spec_RankOfSpoke.f k bt370.1 bt370.2).bind fun bt380 => ((impl_IsSpoke.f k bt370.1 bt370.2).bind fun bt382 => ((spec_IsSpoke.f k bt370.1 bt370.2).bind fun bt384 => ((impl_SpokeNear.f k bt370.1 bt370.2).bind fun bt386 => ((spec_SpokeNear.f k bt370.1 bt370.2).bind fun bt388 => ((impl_SpokesOf.f k bt370.1).bind fun bt390 => ((spec_SpokesOf.f k bt370.1).bind fun bt394 => ((impl_StepsOf.f k bt370.1).bind fun bt398 => ((spec_StepsOf.f k bt370.1).bind fun bt402 => ((impl_CountSpokes.f k bt370.1).bind fun bt406 => ((spec_CountSpokes.f k bt370.1).bind fun bt408 => (if (bt374.2 != bt376.2) = true then (none) else (if bt374.1 = bt376.1 then (if (bt378.2 != bt380.2) = true then (none) else (if bt378.1 = bt380.1 then (if (bt382.2 != bt384.2) = true then (none) else (if (bt382.1 != bt384.1) = true then (none) else (if (bt386.2 != bt388.2) = true then (none) else (if bt386.1 = bt388.1 then (if (bt390.2 != bt394.2) = true then (none) else ((laws_gSame.f k bt390.1 bt394.1).bind fun t410 => (if t410 = true then (if (bt398.2 != bt402.2) = true then (none) else ((laws_gSame.f k bt398.1 bt402.1).bind fun t411 => (if t411 = true then (if (bt406.2 != bt408.2) = true then (none) else (if bt406.1 = bt408.1 then (if (bt398.2 != bt390.2) = true then (none) else (if (bt406.2 != bt390.2) = true then (none) else (if bt382.2 = true then (if bt382.1 = true then (if (bt378.2 != (decide (bt370.2 > 0))) = true then (none) else (if bt390.2 = true then (laws_FnWheelsTurn.j0 k bt370.1 bt370.2 bt374.1 bt374.2 bt378.1 bt378.2 bt382.1 bt386.1 bt386.2 bt390.1 bt390.2 bt398.1 bt406.1 (bt386.2 != bt382.2)) else (none))) else (if (bt378.2 != false) = true then (none) else (if bt390.2 = true then (laws_FnWheelsTurn.j0 k bt370.1 bt370.2 bt374.1 bt374.2 bt378.1 bt378.2 bt382.1 bt386.1 bt386.2 bt390.1 bt390.2 bt398.1 bt406.1 (bt386.2 != bt382.2)) else (none)))) else (if (bt378.2 != false) = true then (none) else (laws_FnWheelsTurn.j0 k bt370.1 bt370.2 bt374.1 bt374.2 bt378.1 bt378.2 bt382.1 bt386.1 bt386.2 bt390.1 bt390.2 bt398.1 bt406.1 (bt386.2 != bt382.2)))))) else (none))) else (none)))) else (none)))) else (none))))) else (none))) else (none)))))))))))))))))) = some r := by rw [if_neg (show ¬ (false = true) by decide)] at H; exact H
  clear H
  have H := H1
  clear H1
  replace H := Option.bind_eq_some_iff.mp H
  obtain ⟨⟨t370, t371⟩, A50, H⟩ := H
  replace H : ((impl_SpokeOfRank.f k t370 t371).bind fun bt374 => ((spec_SpokeOfRank.f k t370 t371).bind fun bt376 => ((impl_RankOfSpoke.f k t370 t371).bind fun bt378 => ((spec_RankOfSpoke.f k t370 t371).bind fun bt380 => ((impl_IsSpoke.f k t370 t371).bind fun bt382 => ((spec_IsSpoke.f k t370 t371).bind fun bt384 => ((impl_SpokeNear.f k t370 t371).bind fun bt386 => ((spec_SpokeNear.f k t370 t371).bind fun bt388 => ((impl_SpokesOf.f k t370).bind fun bt390 => ((spec_SpokesOf.f k t370).bind fun bt394 => ((impl_StepsOf.f k t370).bind fun bt398 => ((spec_StepsOf.f k t370).bind fun bt402 => ((impl_CountSpokes.f k t370).bind fun bt406 => ((spec_CountSpokes.f k t370).bind fun bt408 => (if (bt374.2 != bt376.2) = true then (none) else (if bt374.1 = bt376.1 then (if (bt378.2 != bt380.2) = true then (none) else (if bt378.1 = bt380.1 then (if (bt382.2 != bt384.2) = true then (none) else (if (bt382.1 != bt384.1) = true then (none) else (if (bt386.2 != bt388.2) = true then (none) else (if bt386.1 = bt388.1 then (if (bt390.2 != bt394.2) = true then (none) else ((laws_gSame.f k bt390.1 bt394.1).bind fun t410 => (if t410 = true then (if (bt398.2 != bt402.2) = true then (none) else ((laws_gSame.f k bt398.1 bt402.1).bind fun t411 => (if t411 = true then (if (bt406.2 != bt408.2) = true then (none) else (if bt406.1 = bt408.1 then (if (bt398.2 != bt390.2) = true then (none) else (if (bt406.2 != bt390.2) = true then (none) else (if bt382.2 = true then (if bt382.1 = true then (if (bt378.2 != (decide (t371 > 0))) = true then (none) else (if bt390.2 = true then (laws_FnWheelsTurn.j0 k t370 t371 bt374.1 bt374.2 bt378.1 bt378.2 bt382.1 bt386.1 bt386.2 bt390.1 bt390.2 bt398.1 bt406.1 (bt386.2 != bt382.2)) else (none))) else (if (bt378.2 != false) = true then (none) else (if bt390.2 = true then (laws_FnWheelsTurn.j0 k t370 t371 bt374.1 bt374.2 bt378.1 bt378.2 bt382.1 bt386.1 bt386.2 bt390.1 bt390.2 bt398.1 bt406.1 (bt386.2 != bt382.2)) else (none)))) else (if (bt378.2 != false) = true then (none) else (laws_FnWheelsTurn.j0 k t370 t371 bt374.1 bt374.2 bt378.1 bt378.2 bt382.1 bt386.1 bt386.2 bt390.1 bt390.2 bt398.1 bt406.1 (bt386.2 != bt382.2)))))) else (none))) else (none)))) else (none)))) else (none))))) else (none))) else (none))))))))))))))))) = some r := H
  have A5 := Aside0.mk A50
  clear A50
  replace H := Option.bind_eq_some_iff.mp H
  obtain ⟨⟨t374, t375⟩, A60, H⟩ := H
  replace H : ((spec_SpokeOfRank.f k t370 t371).bind fun bt376 => ((impl_RankOfSpoke.f k t370 t371).bind fun bt378 => ((spec_RankOfSpoke.f k t370 t371).bind fun bt380 => ((impl_IsSpoke.f k t370 t371).bind fun bt382 => ((spec_IsSpoke.f k t370 t371).bind fun bt384 => ((impl_SpokeNear.f k t370 t371).bind fun bt386 => ((spec_SpokeNear.f k t370 t371).bind fun bt388 => ((impl_SpokesOf.f k t370).bind fun bt390 => ((spec_SpokesOf.f k t370).bind fun bt394 => ((impl_StepsOf.f k t370).bind fun bt398 => ((spec_StepsOf.f k t370).bind fun bt402 => ((impl_CountSpokes.f k t370).bind fun bt406 => ((spec_CountSpokes.f k t370).bind fun bt408 => (if (t375 != bt376.2) = true then (none) else (if t374 = bt376.1 then (if (bt378.2 != bt380.2) = true then (none) else (if bt378.1 = bt380.1 then (if (bt382.2 != bt384.2) = true then (none) else (if (bt382.1 != bt384.1) = true then (none) else (if (bt386.2 != bt388.2) = true then (none) else (if bt386.1 = bt388.1 then (if (bt390.2 != bt394.2) = true then (none) else ((laws_gSame.f k bt390.1 bt394.1).bind fun t410 => (if t410 = true then (if (bt398.2 != bt402.2) = true then (none) else ((laws_gSame.f k bt398.1 bt402.1).bind fun t411 => (if t411 = true then (if (bt406.2 != bt408.2) = true then (none) else (if bt406.1 = bt408.1 then (if (bt398.2 != bt390.2) = true then (none) else (if (bt406.2 != bt390.2) = true then (none) else (if bt382.2 = true then (if bt382.1 = true then (if (bt378.2 != (decide (t371 > 0))) = true then (none) else (if bt390.2 = true then (laws_FnWheelsTurn.j0 k t370 t371 t374 t375 bt378.1 bt378.2 bt382.1 bt386.1 bt386.2 bt390.1 bt390.2 bt398.1 bt406.1 (bt386.2 != bt382.2)) else (none))) else (if (bt378.2 != false) = true then (none) else (if bt390.2 = true then (laws_FnWheelsTurn.j0 k t370 t371 t374 t375 bt378.1 bt378.2 bt382.1 bt386.1 bt386.2 bt390.1 bt390.2 bt398.1 bt406.1 (bt386.2 != bt382.2)) else (none)))) else (if (bt378.2 != false) = true then (none) else (laws_FnWheelsTurn.j0 k t370 t371 t374 t375 bt378.1 bt378.2 bt382.1 bt386.1 bt386.2 bt390.1 bt390.2 bt398.1 bt406.1 (bt386.2 != bt382.2)))))) else (none))) else (none)))) else (none)))) else (none))))) else (none))) else (none)))))))))))))))) = some r := H
  have A6 := Aside0.mk A60
  clear A60
  replace H := Option.bind_eq_some_iff.mp H
  obtain ⟨⟨t376, t377⟩, A70, H⟩ := H
  replace H : ((impl_RankOfSpoke.f k t370 t371).bind fun bt378 => ((spec_RankOfSpoke.f k t370 t371).bind fun bt380 => ((impl_IsSpoke.f k t370 t371).bind fun bt382 => ((spec_IsSpoke.f k t370 t371).bind fun bt384 => ((impl_SpokeNear.f k t370 t371).bind fun bt386 => ((spec_SpokeNear.f k t370 t371).bind fun bt388 => ((impl_SpokesOf.f k t370).bind fun bt390 => ((spec_SpokesOf.f k t370).bind fun bt394 => ((impl_StepsOf.f k t370).bind fun bt398 => ((spec_StepsOf.f k t370).bind fun bt402 => ((impl_CountSpokes.f k t370).bind fun bt406 => ((spec_CountSpokes.f k t370).bind fun bt408 => (if (t375 != t377) = true then (none) else (if t374 = t376 then (if (bt378.2 != bt380.2) = true then (none) else (if bt378.1 = bt380.1 then (if (bt382.2 != bt384.2) = true then (none) else (if (bt382.1 != bt384.1) = true then (none) else (if (bt386.2 != bt388.2) = true then (none) else (if bt386.1 = bt388.1 then (if (bt390.2 != bt394.2) = true then (none) else ((laws_gSame.f k bt390.1 bt394.1).bind fun t410 => (if t410 = true then (if (bt398.2 != bt402.2) = true then (none) else ((laws_gSame.f k bt398.1 bt402.1).bind fun t411 => (if t411 = true then (if (bt406.2 != bt408.2) = true then (none) else (if bt406.1 = bt408.1 then (if (bt398.2 != bt390.2) = true then (none) else (if (bt406.2 != bt390.2) = true then (none) else (if bt382.2 = true then (if bt382.1 = true then (if (bt378.2 != (decide (t371 > 0))) = true then (none) else (if bt390.2 = true then (laws_FnWheelsTurn.j0 k t370 t371 t374 t375 bt378.1 bt378.2 bt382.1 bt386.1 bt386.2 bt390.1 bt390.2 bt398.1 bt406.1 (bt386.2 != bt382.2)) else (none))) else (if (bt378.2 != false) = true then (none) else (if bt390.2 = true then (laws_FnWheelsTurn.j0 k t370 t371 t374 t375 bt378.1 bt378.2 bt382.1 bt386.1 bt386.2 bt390.1 bt390.2 bt398.1 bt406.1 (bt386.2 != bt382.2)) else (none)))) else (if (bt378.2 != false) = true then (none) else (laws_FnWheelsTurn.j0 k t370 t371 t374 t375 bt378.1 bt378.2 bt382.1 bt386.1 bt386.2 bt390.1 bt390.2 bt398.1 bt406.1 (bt386.2 != bt382.2)))))) else (none))) else (none)))) else (none)))) else (none))))) else (none))) else (none))))))))))))))) = some r := H
  have A7 := Aside0.mk A70
  clear A70
  replace H := Option.bind_eq_some_iff.mp H
  obtain ⟨⟨t378, t379⟩, A80, H⟩ := H
  replace H : ((spec_RankOfSpoke.f k t370 t371).bind fun bt380 => ((impl_IsSpoke.f k t370 t371).bind fun bt382 => ((spec_IsSpoke.f k t370 t371).bind fun bt384 => ((impl_SpokeNear.f k t370 t371).bind fun bt386 => ((spec_SpokeNear.f k t370 t371).bind fun bt388 => ((impl_SpokesOf.f k t370).bind fun bt390 => ((spec_SpokesOf.f k t370).bind fun bt394 => ((impl_StepsOf.f k t370).bind fun bt398 => ((spec_StepsOf.f k t370).bind fun bt402 => ((impl_CountSpokes.f k t370).bind fun bt406 => ((spec_CountSpokes.f k t370).bind fun bt408 => (if (t375 != t377) = true then (none) else (if t374 = t376 then (if (t379 != bt380.2) = true then (none) else (if t378 = bt380.1 then (if (bt382.2 != bt384.2) = true then (none) else (if (bt382.1 != bt384.1) = true then (none) else (if (bt386.2 != bt388.2) = true then (none) else (if bt386.1 = bt388.1 then (if (bt390.2 != bt394.2) = true then (none) else ((laws_gSame.f k bt390.1 bt394.1).bind fun t410 => (if t410 = true then (if (bt398.2 != bt402.2) = true then (none) else ((laws_gSame.f k bt398.1 bt402.1).bind fun t411 => (if t411 = true then (if (bt406.2 != bt408.2) = true then (none) else (if bt406.1 = bt408.1 then (if (bt398.2 != bt390.2) = true then (none) else (if (bt406.2 != bt390.2) = true then (none) else (if bt382.2 = true then (if bt382.1 = true then (if (t379 != (decide (t371 > 0))) = true then (none) else (if bt390.2 = true then (laws_FnWheelsTurn.j0 k t370 t371 t374 t375 t378 t379 bt382.1 bt386.1 bt386.2 bt390.1 bt390.2 bt398.1 bt406.1 (bt386.2 != bt382.2)) else (none))) else (if (t379 != false) = true then (none) else (if bt390.2 = true then (laws_FnWheelsTurn.j0 k t370 t371 t374 t375 t378 t379 bt382.1 bt386.1 bt386.2 bt390.1 bt390.2 bt398.1 bt406.1 (bt386.2 != bt382.2)) else (none)))) else (if (t379 != false) = true then (none) else (laws_FnWheelsTurn.j0 k t370 t371 t374 t375 t378 t379 bt382.1 bt386.1 bt386.2 bt390.1 bt390.2 bt398.1 bt406.1 (bt386.2 != bt382.2)))))) else (none))) else (none)))) else (none)))) else (none))))) else (none))) else (none)))))))))))))) = some r := H
  have A8 := Aside0.mk A80
  clear A80
  replace H := Option.bind_eq_some_iff.mp H
  obtain ⟨⟨t380, t381⟩, A90, H⟩ := H
  replace H : ((impl_IsSpoke.f k t370 t371).bind fun bt382 => ((spec_IsSpoke.f k t370 t371).bind fun bt384 => ((impl_SpokeNear.f k t370 t371).bind fun bt386 => ((spec_SpokeNear.f k t370 t371).bind fun bt388 => ((impl_SpokesOf.f k t370).bind fun bt390 => ((spec_SpokesOf.f k t370).bind fun bt394 => ((impl_StepsOf.f k t370).bind fun bt398 => ((spec_StepsOf.f k t370).bind fun bt402 => ((impl_CountSpokes.f k t370).bind fun bt406 => ((spec_CountSpokes.f k t370).bind fun bt408 => (if (t375 != t377) = true then (none) else (if t374 = t376 then (if (t379 != t381) = true then (none) else (if t378 = t380 then (if (bt382.2 != bt384.2) = true then (none) else (if (bt382.1 != bt384.1) = true then (none) else (if (bt386.2 != bt388.2) = true then (none) else (if bt386.1 = bt388.1 then (if (bt390.2 != bt394.2) = true then (none) else ((laws_gSame.f k bt390.1 bt394.1).bind fun t410 => (if t410 = true then (if (bt398.2 != bt402.2) = true then (none) else ((laws_gSame.f k bt398.1 bt402.1).bind fun t411 => (if t411 = true then (if (bt406.2 != bt408.2) = true then (none) else (if bt406.1 = bt408.1 then (if (bt398.2 != bt390.2) = true then (none) else (if (bt406.2 != bt390.2) = true then (none) else (if bt382.2 = true then (if bt382.1 = true then (if (t379 != (decide (t371 > 0))) = true then (none) else (if bt390.2 = true then (laws_FnWheelsTurn.j0 k t370 t371 t374 t375 t378 t379 bt382.1 bt386.1 bt386.2 bt390.1 bt390.2 bt398.1 bt406.1 (bt386.2 != bt382.2)) else (none))) else (if (t379 != false) = true then (none) else (if bt390.2 = true then (laws_FnWheelsTurn.j0 k t370 t371 t374 t375 t378 t379 bt382.1 bt386.1 bt386.2 bt390.1 bt390.2 bt398.1 bt406.1 (bt386.2 != bt382.2)) else (none)))) else (if (t379 != false) = true then (none) else (laws_FnWheelsTurn.j0 k t370 t371 t374 t375 t378 t379 bt382.1 bt386.1 bt386.2 bt390.1 bt390.2 bt398.1 bt406.1 (bt386.2 != bt382.2)))))) else (none))) else (none)))) else (none)))) else (none))))) else (none))) else (none))))))))))))) = some r := H
  have A9 := Aside0.mk A90
  clear A90
  replace H := Option.bind_eq_some_iff.mp H
  obtain ⟨⟨t382, t383⟩, A100, H⟩ := H
  replace H : ((spec_IsSpoke.f k t370 t371).bind fun bt384 => ((impl_SpokeNear.f k t370 t371).bind fun bt386 => ((spec_SpokeNear.f k t370 t371).bind fun bt388 => ((impl_SpokesOf.f k t370).bind fun bt390 => ((spec_SpokesOf.f k t370).bind fun bt394 => ((impl_StepsOf.f k t370).bind fun bt398 => ((spec_StepsOf.f k t370).bind fun bt402 => ((impl_CountSpokes.f k t370).bind fun bt406 => ((spec_CountSpokes.f k t370).bind fun bt408 => (if (t375 != t377) = true then (none) else (if t374 = t376 then (if (t379 != t381) = true then (none) else (if t378 = t380 then (if (t383 != bt384.2) = true then (none) else (if (t382 != bt384.1) = true then (none) else (if (bt386.2 != bt388.2) = true then (none) else (if bt386.1 = bt388.1 then (if (bt390.2 != bt394.2) = true then (none) else ((laws_gSame.f k bt390.1 bt394.1).bind fun t410 => (if t410 = true then (if (bt398.2 != bt402.2) = true then (none) else ((laws_gSame.f k bt398.1 bt402.1).bind fun t411 => (if t411 = true then (if (bt406.2 != bt408.2) = true then (none) else (if bt406.1 = bt408.1 then (if (bt398.2 != bt390.2) = true then (none) else (if (bt406.2 != bt390.2) = true then (none) else (if t383 = true then (if t382 = true then (if (t379 != (decide (t371 > 0))) = true then (none) else (if bt390.2 = true then (laws_FnWheelsTurn.j0 k t370 t371 t374 t375 t378 t379 t382 bt386.1 bt386.2 bt390.1 bt390.2 bt398.1 bt406.1 (bt386.2 != t383)) else (none))) else (if (t379 != false) = true then (none) else (if bt390.2 = true then (laws_FnWheelsTurn.j0 k t370 t371 t374 t375 t378 t379 t382 bt386.1 bt386.2 bt390.1 bt390.2 bt398.1 bt406.1 (bt386.2 != t383)) else (none)))) else (if (t379 != false) = true then (none) else (laws_FnWheelsTurn.j0 k t370 t371 t374 t375 t378 t379 t382 bt386.1 bt386.2 bt390.1 bt390.2 bt398.1 bt406.1 (bt386.2 != t383)))))) else (none))) else (none)))) else (none)))) else (none))))) else (none))) else (none)))))))))))) = some r := H
  have A10 := Aside0.mk A100
  clear A100
  replace H := Option.bind_eq_some_iff.mp H
  obtain ⟨⟨t384, t385⟩, A110, H⟩ := H
  replace H : ((impl_SpokeNear.f k t370 t371).bind fun bt386 => ((spec_SpokeNear.f k t370 t371).bind fun bt388 => ((impl_SpokesOf.f k t370).bind fun bt390 => ((spec_SpokesOf.f k t370).bind fun bt394 => ((impl_StepsOf.f k t370).bind fun bt398 => ((spec_StepsOf.f k t370).bind fun bt402 => ((impl_CountSpokes.f k t370).bind fun bt406 => ((spec_CountSpokes.f k t370).bind fun bt408 => (if (t375 != t377) = true then (none) else (if t374 = t376 then (if (t379 != t381) = true then (none) else (if t378 = t380 then (if (t383 != t385) = true then (none) else (if (t382 != t384) = true then (none) else (if (bt386.2 != bt388.2) = true then (none) else (if bt386.1 = bt388.1 then (if (bt390.2 != bt394.2) = true then (none) else ((laws_gSame.f k bt390.1 bt394.1).bind fun t410 => (if t410 = true then (if (bt398.2 != bt402.2) = true then (none) else ((laws_gSame.f k bt398.1 bt402.1).bind fun t411 => (if t411 = true then (if (bt406.2 != bt408.2) = true then (none) else (if bt406.1 = bt408.1 then (if (bt398.2 != bt390.2) = true then (none) else (if (bt406.2 != bt390.2) = true then (none) else (if t383 = true then (if t382 = true then (if (t379 != (decide (t371 > 0))) = true then (none) else (if bt390.2 = true then (laws_FnWheelsTurn.j0 k t370 t371 t374 t375 t378 t379 t382 bt386.1 bt386.2 bt390.1 bt390.2 bt398.1 bt406.1 (bt386.2 != t383)) else (none))) else (if (t379 != false) = true then (none) else (if bt390.2 = true then (laws_FnWheelsTurn.j0 k t370 t371 t374 t375 t378 t379 t382 bt386.1 bt386.2 bt390.1 bt390.2 bt398.1 bt406.1 (bt386.2 != t383)) else (none)))) else (if (t379 != false) = true then (none) else (laws_FnWheelsTurn.j0 k t370 t371 t374 t375 t378 t379 t382 bt386.1 bt386.2 bt390.1 bt390.2 bt398.1 bt406.1 (bt386.2 != t383)))))) else (none))) else (none)))) else (none)))) else (none))))) else (none))) else (none))))))))))) = some r := H
  have A11 := Aside0.mk A110
  clear A110
  replace H := Option.bind_eq_some_iff.mp H
  obtain ⟨⟨t386, t387⟩, A120, H⟩ := H
  replace H : ((spec_SpokeNear.f k t370 t371).bind fun bt388 => ((impl_SpokesOf.f k t370).bind fun bt390 => ((spec_SpokesOf.f k t370).bind fun bt394 => ((impl_StepsOf.f k t370).bind fun bt398 => ((spec_StepsOf.f k t370).bind fun bt402 => ((impl_CountSpokes.f k t370).bind fun bt406 => ((spec_CountSpokes.f k t370).bind fun bt408 => (if (t375 != t377) = true then (none) else (if t374 = t376 then (if (t379 != t381) = true then (none) else (if t378 = t380 then (if (t383 != t385) = true then (none) else (if (t382 != t384) = true then (none) else (if (t387 != bt388.2) = true then (none) else (if t386 = bt388.1 then (if (bt390.2 != bt394.2) = true then (none) else ((laws_gSame.f k bt390.1 bt394.1).bind fun t410 => (if t410 = true then (if (bt398.2 != bt402.2) = true then (none) else ((laws_gSame.f k bt398.1 bt402.1).bind fun t411 => (if t411 = true then (if (bt406.2 != bt408.2) = true then (none) else (if bt406.1 = bt408.1 then (if (bt398.2 != bt390.2) = true then (none) else (if (bt406.2 != bt390.2) = true then (none) else (if t383 = true then (if t382 = true then (if (t379 != (decide (t371 > 0))) = true then (none) else (if bt390.2 = true then (laws_FnWheelsTurn.j0 k t370 t371 t374 t375 t378 t379 t382 t386 t387 bt390.1 bt390.2 bt398.1 bt406.1 (t387 != t383)) else (none))) else (if (t379 != false) = true then (none) else (if bt390.2 = true then (laws_FnWheelsTurn.j0 k t370 t371 t374 t375 t378 t379 t382 t386 t387 bt390.1 bt390.2 bt398.1 bt406.1 (t387 != t383)) else (none)))) else (if (t379 != false) = true then (none) else (laws_FnWheelsTurn.j0 k t370 t371 t374 t375 t378 t379 t382 t386 t387 bt390.1 bt390.2 bt398.1 bt406.1 (t387 != t383)))))) else (none))) else (none)))) else (none)))) else (none))))) else (none))) else (none)))))))))) = some r := H
  have A12 := Aside0.mk A120
  clear A120
  replace H := Option.bind_eq_some_iff.mp H
  obtain ⟨⟨t388, t389⟩, A130, H⟩ := H
  replace H : ((impl_SpokesOf.f k t370).bind fun bt390 => ((spec_SpokesOf.f k t370).bind fun bt394 => ((impl_StepsOf.f k t370).bind fun bt398 => ((spec_StepsOf.f k t370).bind fun bt402 => ((impl_CountSpokes.f k t370).bind fun bt406 => ((spec_CountSpokes.f k t370).bind fun bt408 => (if (t375 != t377) = true then (none) else (if t374 = t376 then (if (t379 != t381) = true then (none) else (if t378 = t380 then (if (t383 != t385) = true then (none) else (if (t382 != t384) = true then (none) else (if (t387 != t389) = true then (none) else (if t386 = t388 then (if (bt390.2 != bt394.2) = true then (none) else ((laws_gSame.f k bt390.1 bt394.1).bind fun t410 => (if t410 = true then (if (bt398.2 != bt402.2) = true then (none) else ((laws_gSame.f k bt398.1 bt402.1).bind fun t411 => (if t411 = true then (if (bt406.2 != bt408.2) = true then (none) else (if bt406.1 = bt408.1 then (if (bt398.2 != bt390.2) = true then (none) else (if (bt406.2 != bt390.2) = true then (none) else (if t383 = true then (if t382 = true then (if (t379 != (decide (t371 > 0))) = true then (none) else (if bt390.2 = true then (laws_FnWheelsTurn.j0 k t370 t371 t374 t375 t378 t379 t382 t386 t387 bt390.1 bt390.2 bt398.1 bt406.1 (t387 != t383)) else (none))) else (if (t379 != false) = true then (none) else (if bt390.2 = true then (laws_FnWheelsTurn.j0 k t370 t371 t374 t375 t378 t379 t382 t386 t387 bt390.1 bt390.2 bt398.1 bt406.1 (t387 != t383)) else (none)))) else (if (t379 != false) = true then (none) else (laws_FnWheelsTurn.j0 k t370 t371 t374 t375 t378 t379 t382 t386 t387 bt390.1 bt390.2 bt398.1 bt406.1 (t387 != t383)))))) else (none))) else (none)))) else (none)))) else (none))))) else (none))) else (none))))))))) = some r := H
  have A13 := Aside0.mk A130
  clear A130
  replace H := Option.bind_eq_some_iff.mp H
  obtain ⟨⟨t390, t391⟩, A140, H⟩ := H
  replace H : ((spec_SpokesOf.f k t370).bind fun bt394 => ((impl_StepsOf.f k t370).bind fun bt398 => ((spec_StepsOf.f k t370).bind fun bt402 => ((impl_CountSpokes.f k t370).bind fun bt406 => ((spec_CountSpokes.f k t370).bind fun bt408 => (if (t375 != t377) = true then (none) else (if t374 = t376 then (if (t379 != t381) = true then (none) else (if t378 = t380 then (if (t383 != t385) = true then (none) else (if (t382 != t384) = true then (none) else (if (t387 != t389) = true then (none) else (if t386 = t388 then (if (t391 != bt394.2) = true then (none) else ((laws_gSame.f k t390 bt394.1).bind fun t410 => (if t410 = true then (if (bt398.2 != bt402.2) = true then (none) else ((laws_gSame.f k bt398.1 bt402.1).bind fun t411 => (if t411 = true then (if (bt406.2 != bt408.2) = true then (none) else (if bt406.1 = bt408.1 then (if (bt398.2 != t391) = true then (none) else (if (bt406.2 != t391) = true then (none) else (if t383 = true then (if t382 = true then (if (t379 != (decide (t371 > 0))) = true then (none) else (if t391 = true then (laws_FnWheelsTurn.j0 k t370 t371 t374 t375 t378 t379 t382 t386 t387 t390 t391 bt398.1 bt406.1 (t387 != t383)) else (none))) else (if (t379 != false) = true then (none) else (if t391 = true then (laws_FnWheelsTurn.j0 k t370 t371 t374 t375 t378 t379 t382 t386 t387 t390 t391 bt398.1 bt406.1 (t387 != t383)) else (none)))) else (if (t379 != false) = true then (none) else (laws_FnWheelsTurn.j0 k t370 t371 t374 t375 t378 t379 t382 t386 t387 t390 t391 bt398.1 bt406.1 (t387 != t383)))))) else (none))) else (none)))) else (none)))) else (none))))) else (none))) else (none)))))))) = some r := H
  have A14 := Aside0.mk A140
  clear A140
  replace H := Option.bind_eq_some_iff.mp H
  obtain ⟨⟨t394, t395⟩, A150, H⟩ := H
  replace H : ((impl_StepsOf.f k t370).bind fun bt398 => ((spec_StepsOf.f k t370).bind fun bt402 => ((impl_CountSpokes.f k t370).bind fun bt406 => ((spec_CountSpokes.f k t370).bind fun bt408 => (if (t375 != t377) = true then (none) else (if t374 = t376 then (if (t379 != t381) = true then (none) else (if t378 = t380 then (if (t383 != t385) = true then (none) else (if (t382 != t384) = true then (none) else (if (t387 != t389) = true then (none) else (if t386 = t388 then (if (t391 != t395) = true then (none) else ((laws_gSame.f k t390 t394).bind fun t410 => (if t410 = true then (if (bt398.2 != bt402.2) = true then (none) else ((laws_gSame.f k bt398.1 bt402.1).bind fun t411 => (if t411 = true then (if (bt406.2 != bt408.2) = true then (none) else (if bt406.1 = bt408.1 then (if (bt398.2 != t391) = true then (none) else (if (bt406.2 != t391) = true then (none) else (if t383 = true then (if t382 = true then (if (t379 != (decide (t371 > 0))) = true then (none) else (if t391 = true then (laws_FnWheelsTurn.j0 k t370 t371 t374 t375 t378 t379 t382 t386 t387 t390 t391 bt398.1 bt406.1 (t387 != t383)) else (none))) else (if (t379 != false) = true then (none) else (if t391 = true then (laws_FnWheelsTurn.j0 k t370 t371 t374 t375 t378 t379 t382 t386 t387 t390 t391 bt398.1 bt406.1 (t387 != t383)) else (none)))) else (if (t379 != false) = true then (none) else (laws_FnWheelsTurn.j0 k t370 t371 t374 t375 t378 t379 t382 t386 t387 t390 t391 bt398.1 bt406.1 (t387 != t383)))))) else (none))) else (none)))) else (none)))) else (none))))) else (none))) else (none))))))) = some r := H
  have A15 := Aside0.mk A150
  clear A150
  replace H := Option.bind_eq_some_iff.mp H
  obtain ⟨⟨t398, t399⟩, A160, H⟩ := H
  replace H : ((spec_StepsOf.f k t370).bind fun bt402 => ((impl_CountSpokes.f k t370).bind fun bt406 => ((spec_CountSpokes.f k t370).bind fun bt408 => (if (t375 != t377) = true then (none) else (if t374 = t376 then (if (t379 != t381) = true then (none) else (if t378 = t380 then (if (t383 != t385) = true then (none) else (if (t382 != t384) = true then (none) else (if (t387 != t389) = true then (none) else (if t386 = t388 then (if (t391 != t395) = true then (none) else ((laws_gSame.f k t390 t394).bind fun t410 => (if t410 = true then (if (t399 != bt402.2) = true then (none) else ((laws_gSame.f k t398 bt402.1).bind fun t411 => (if t411 = true then (if (bt406.2 != bt408.2) = true then (none) else (if bt406.1 = bt408.1 then (if (t399 != t391) = true then (none) else (if (bt406.2 != t391) = true then (none) else (if t383 = true then (if t382 = true then (if (t379 != (decide (t371 > 0))) = true then (none) else (if t391 = true then (laws_FnWheelsTurn.j0 k t370 t371 t374 t375 t378 t379 t382 t386 t387 t390 t391 t398 bt406.1 (t387 != t383)) else (none))) else (if (t379 != false) = true then (none) else (if t391 = true then (laws_FnWheelsTurn.j0 k t370 t371 t374 t375 t378 t379 t382 t386 t387 t390 t391 t398 bt406.1 (t387 != t383)) else (none)))) else (if (t379 != false) = true then (none) else (laws_FnWheelsTurn.j0 k t370 t371 t374 t375 t378 t379 t382 t386 t387 t390 t391 t398 bt406.1 (t387 != t383)))))) else (none))) else (none)))) else (none)))) else (none))))) else (none))) else (none)))))) = some r := H
  have A16 := Aside0.mk A160
  clear A160
  replace H := Option.bind_eq_some_iff.mp H
  obtain ⟨⟨t402, t403⟩, A170, H⟩ := H
  replace H : ((impl_CountSpokes.f k t370).bind fun bt406 => ((spec_CountSpokes.f k t370).bind fun bt408 => (if (t375 != t377) = true then (none) else (if t374 = t376 then (if (t379 != t381) = true then (none) else (if t378 = t380 then (if (t383 != t385) = true then (none) else (if (t382 != t384) = true then (none) else (if (t387 != t389) = true then (none) else (if t386 = t388 then (if (t391 != t395) = true then (none) else ((laws_gSame.f k t390 t394).bind fun t410 => (if t410 = true then (if (t399 != t403) = true then (none) else ((laws_gSame.f k t398 t402).bind fun t411 => (if t411 = true then (if (bt406.2 != bt408.2) = true then (none) else (if bt406.1 = bt408.1 then (if (t399 != t391) = true then (none) else (if (bt406.2 != t391) = true then (none) else (if t383 = true then (if t382 = true then (if (t379 != (decide (t371 > 0))) = true then (none) else (if t391 = true then (laws_FnWheelsTurn.j0 k t370 t371 t374 t375 t378 t379 t382 t386 t387 t390 t391 t398 bt406.1 (t387 != t383)) else (none))) else (if (t379 != false) = true then (none) else (if t391 = true then (laws_FnWheelsTurn.j0 k t370 t371 t374 t375 t378 t379 t382 t386 t387 t390 t391 t398 bt406.1 (t387 != t383)) else (none)))) else (if (t379 != false) = true then (none) else (laws_FnWheelsTurn.j0 k t370 t371 t374 t375 t378 t379 t382 t386 t387 t390 t391 t398 bt406.1 (t387 != t383)))))) else (none))) else (none)))) else (none)))) else (none))))) else (none))) else (none))))) = some r := H
  have A17 := Aside0.mk A170
  clear A170
  replace H := Option.bind_eq_some_iff.mp H
  obtain ⟨⟨t406, t407⟩, A180, H⟩ := H
  replace H : ((spec_CountSpokes.f k t370).bind fun bt408 => (if (t375 != t377) = true then (none) else (if t374 = t376 then (if (t379 != t381) = true then (none) else (if t378 = t380 then (if (t383 != t385) = true then (none) else (if (t382 != t384) = true then (none) else (if (t387 != t389) = true then (none) else (if t386 = t388 then (if (t391 != t395) = true then (none) else ((laws_gSame.f k t390 t394).bind fun t410 => (if t410 = true then (if (t399 != t403) = true then (none) else ((laws_gSame.f k t398 t402).bind fun t411 => (if t411 = true then (if (t407 != bt408.2) = true then (none) else (if t406 = bt408.1 then (if (t399 != t391) = true then (none) else (if (t407 != t391) = true then (none) else (if t383 = true then (if t382 = true then (if (t379 != (decide (t371 > 0))) = true then (none) else (if t391 = true then (laws_FnWheelsTurn.j0 k t370 t371 t374 t375 t378 t379 t382 t386 t387 t390 t391 t398 t406 (t387 != t383)) else (none))) else (if (t379 != false) = true then (none) else (if t391 = true then (laws_FnWheelsTurn.j0 k t370 t371 t374 t375 t378 t379 t382 t386 t387 t390 t391 t398 t406 (t387 != t383)) else (none)))) else (if (t379 != false) = true then (none) else (laws_FnWheelsTurn.j0 k t370 t371 t374 t375 t378 t379 t382 t386 t387 t390 t391 t398 t406 (t387 != t383)))))) else (none))) else (none)))) else (none)))) else (none))))) else (none))) else (none)))) = some r := H
  have A18 := Aside0.mk A180
  clear A180
  replace H := Option.bind_eq_some_iff.mp H
  obtain ⟨⟨t408, t409⟩, A190, H⟩ := H
  replace H : (if (t375 != t377) = true then (none) else (if t374 = t376 then (if (t379 != t381) = true then (none) else (if t378 = t380 then (if (t383 != t385) = true then (none) else (if (t382 != t384) = true then (none) else (if (t387 != t389) = true then (none) else (if t386 = t388 then (if (t391 != t395) = true then (none) else ((laws_gSame.f k t390 t394).bind fun t410 => (if t410 = true then (if (t399 != t403) = true then (none) else ((laws_gSame.f k t398 t402).bind fun t411 => (if t411 = true then (if (t407 != t409) = true then (none) else (if t406 = t408 then (if (t399 != t391) = true then (none) else (if (t407 != t391) = true then (none) else (if t383 = true then (if t382 = true then (if (t379 != (decide (t371 > 0))) = true then (none) else (if t391 = true then (laws_FnWheelsTurn.j0 k t370 t371 t374 t375 t378 t379 t382 t386 t387 t390 t391 t398 t406 (t387 != t383)) else (none))) else (if (t379 != false) = true then (none) else (if t391 = true then (laws_FnWheelsTurn.j0 k t370 t371 t374 t375 t378 t379 t382 t386 t387 t390 t391 t398 t406 (t387 != t383)) else (none)))) else (if (t379 != false) = true then (none) else (laws_FnWheelsTurn.j0 k t370 t371 t374 t375 t378 t379 t382 t386 t387 t390 t391 t398 t406 (t387 != t383)))))) else (none))) else (none)))) else (none)))) else (none))))) else (none))) else (none))) = some r := H
  have A19 := Aside0.mk A190
  clear A190
  have HC20 := Aside0.mk H
  clear H
  as_aux_lemma =>
  go_enter Try.func4, Try.ntmps4
  as_aux_lemma =>
  go_upto_region 18 with (first | (go_at_call 25; (with_reducible refine (laws_big.calls _ _ l0 _ _ l1 false _ ?side1 ?side2 ?side3 ?side4 A3.out).mono ?_); (case side1 => repeat (first | exact HR0.out | (with_reducible refine Kd.C_alloc ?_ _) | (with_reducible refine Kd.C_drewN ?_ _) | (with_reducible refine Kd.C_drew ?_))); (case side2 => exact HC0.out); (case side3 => repeat (first | exact HR1.out | (with_reducible refine Kd.C_alloc ?_ _) | (with_reducible refine Kd.C_drewN ?_ _) | (with_reducible refine Kd.C_drew ?_))); (case side4 => exact HC1.out); rintro e w' ⟨rfl, ⟨nd, rfl⟩⟩; (try first | exact ⟨rfl, _, World.drewN_drewN _ _ _⟩ | exact ⟨rfl, _, Eq.trans (World.drewN_drewN _ _ _) (congrArg (World.drewN _) (Nat.add_assoc _ _ _))⟩)))
  as_aux_lemma =>
  go_upto_region 18 with (first | (go_at_call 26; (with_reducible refine (spec_DrawSpokeOfRank.calls k _ _ l0 t370 t371 _ ?side1 ?side2 A5.out).mono ?_); (case side1 => repeat (first | exact HR0.out | (with_reducible refine Kd.C_alloc ?_ _) | (with_reducible refine Kd.C_drewN ?_ _) | (with_reducible refine Kd.C_drew ?_))); (case side2 => exact HC0.out); rintro e w21 ⟨v372, rfl, ho0, hb⟩; have n0_ := Aside0.mk (Kd.R_lower ho0 (below_size (by repeat (first | (with_reducible first | exact HB.out | apply below_alloc | apply pw_below_drewN | apply below_drew1) | exact HB.out)))); have n1_ := Aside0.mk (below_step (by repeat (first | (with_reducible first | exact HB.out | apply below_alloc | apply pw_below_drewN | apply below_drew1) | exact HB.out)) hb); clear HB; have HO373 := n0_; have HB := n1_; clear n0_ n1_; (try clear hb); (try clear hb2); (try clear hk); (try clear hi); (try clear ho0); obtain ⟨Ao22, co22, eo22⟩ := Kd.R_slice HO373.out; subst eo22))
  as_aux_lemma =>
  go_upto_region 18 with (first | (go_at_call 7; (with_reducible refine (impl_SpokeOfRank.calls k _ _ t370 t371 t374 t375 _ ?side1 ?side2 A6.out).mono ?_); (case side1 => repeat (first | exact (Kd.R_reads' HO373.out).2.2 | (with_reducible refine Kd.C_alloc ?_ _) | (with_reducible refine Kd.C_drewN ?_ _) | (with_reducible refine Kd.C_drew ?_))); (case side2 => exact (Kd.R_reads' HO373.out).2.1); rintro e w23 ⟨rfl, hb⟩; have n0_ := Aside0.mk (Kd.R_below (by (with_reducible repeat (first | apply Kd.R_alloc | apply Kd.R_drewN | apply Kd.R_drew)); exact HO373.out) hb); have n1_ := Aside0.mk (below_step (by repeat (first | (with_reducible first | exact HB.out | apply below_alloc | apply pw_below_drewN | apply below_drew1) | exact HB.out)) hb); clear HO373; clear HB; have HO373 := n0_; have HB := n1_; clear n0_ n1_; (try clear hb); (try clear hb2); (try clear hk); (try clear hi)))
  as_aux_lemma =>
  go_upto_region 18 with (first | (go_at_call 8; (with_reducible refine (spec_SpokeOfRank.calls k _ _ t370 t371 t376 t377 _ ?side1 ?side2 A7.out).mono ?_); (case side1 => repeat (first | exact (Kd.R_reads' HO373.out).2.2 | (with_reducible refine Kd.C_alloc ?_ _) | (with_reducible refine Kd.C_drewN ?_ _) | (with_reducible refine Kd.C_drew ?_))); (case side2 => exact (Kd.R_reads' HO373.out).2.1); rintro e w24 ⟨rfl, hb⟩; have n0_ := Aside0.mk (Kd.R_below (by (with_reducible repeat (first | apply Kd.R_alloc | apply Kd.R_drewN | apply Kd.R_drew)); exact HO373.out) hb); have n1_ := Aside0.mk (below_step (by repeat (first | (with_reducible first | exact HB.out | apply below_alloc | apply pw_below_drewN | apply below_drew1) | exact HB.out)) hb); clear HO373; clear HB; have HO373 := n0_; have HB := n1_; clear n0_ n1_; (try clear hb); (try clear hb2); (try clear hk); (try clear hi)))
  as_aux_lemma =>
  go_upto_region 18 with (first | (go_at_call 9; (with_reducible refine (impl_RankOfSpoke.calls k _ _ t370 t371 t378 t379 _ ?side1 ?side2 A8.out).mono ?_); (case side1 => repeat (first | exact (Kd.R_reads' HO373.out).2.2 | (with_reducible refine Kd.C_alloc ?_ _) | (with_reducible refine Kd.C_drewN ?_ _) | (with_reducible refine Kd.C_drew ?_))); (case side2 => exact (Kd.R_reads' HO373.out).2.1); rintro e w25 ⟨rfl, hb⟩; have n0_ := Aside0.mk (Kd.R_below (by (with_reducible repeat (first | apply Kd.R_alloc | apply Kd.R_drewN | apply Kd.R_drew)); exact HO373.out) hb); have n1_ := Aside0.mk (below_step (by repeat (first | (with_reducible first | exact HB.out | apply below_alloc | apply pw_below_drewN | apply below_drew1) | exact HB.out)) hb); clear HO373; clear HB; have HO373 := n0_; have HB := n1_; clear n0_ n1_; (try clear hb); (try clear hb2); (try clear hk); (try clear hi)))
  as_aux_lemma =>
  go_upto_region 18 with (first | (go_at_call 10; (with_reducible refine (spec_RankOfSpoke.calls k _ _ t370 t371 t380 t381 _ ?side1 ?side2 A9.out).mono ?_); (case side1 => repeat (first | exact (Kd.R_reads' HO373.out).2.2 | (with_reducible refine Kd.C_alloc ?_ _) | (with_reducible refine Kd.C_drewN ?_ _) | (with_reducible refine Kd.C_drew ?_))); (case side2 => exact (Kd.R_reads' HO373.out).2.1); rintro e w26 ⟨rfl, hb⟩; have n0_ := Aside0.mk (Kd.R_below (by (with_reducible repeat (first | apply Kd.R_alloc | apply Kd.R_drewN | apply Kd.R_drew)); exact HO373.out) hb); have n1_ := Aside0.mk (below_step (by repeat (first | (with_reducible first | exact HB.out | apply below_alloc | apply pw_below_drewN | apply below_drew1) | exact HB.out)) hb); clear HO373; clear HB; have HO373 := n0_; have HB := n1_; clear n0_ n1_; (try clear hb); (try clear hb2); (try clear hk); (try clear hi)))
  as_aux_lemma =>
  go_upto_region 18 with (first | (go_at_call 11; (with_reducible refine (impl_IsSpoke.calls k _ _ t370 t371 t382 t383 _ ?side1 ?side2 A10.out).mono ?_); (case side1 => repeat (first | exact (Kd.R_reads' HO373.out).2.2 | (with_reducible refine Kd.C_alloc ?_ _) | (with_reducible refine Kd.C_drewN ?_ _) | (with_reducible refine Kd.C_drew ?_))); (case side2 => exact (Kd.R_reads' HO373.out).2.1); rintro e w27 ⟨rfl, hb⟩; have n0_ := Aside0.mk (Kd.R_below (by (with_reducible repeat (first | apply Kd.R_alloc | apply Kd.R_drewN | apply Kd.R_drew)); exact HO373.out) hb); have n1_ := Aside0.mk (below_step (by repeat (first | (with_reducible first | exact HB.out | apply below_alloc | apply pw_below_drewN | apply below_drew1) | exact HB.out)) hb); clear HO373; clear HB; have HO373 := n0_; have HB := n1_; clear n0_ n1_; (try clear hb); (try clear hb2); (try clear hk); (try clear hi)))
  as_aux_lemma =>
  go_upto_region 18 with (first | (go_at_call 12; (with_reducible refine (spec_IsSpoke.calls k _ _ t370 t371 t384 t385 _ ?side1 ?side2 A11.out).mono ?_); (case side1 => repeat (first | exact (Kd.R_reads' HO373.out).2.2 | (with_reducible refine Kd.C_alloc ?_ _) | (with_reducible refine Kd.C_drewN ?_ _) | (with_reducible refine Kd.C_drew ?_))); (case side2 => exact (Kd.R_reads' HO373.out).2.1); rintro e w28 ⟨rfl, hb⟩; have n0_ := Aside0.mk (Kd.R_below (by (with_reducible repeat (first | apply Kd.R_alloc | apply Kd.R_drewN | apply Kd.R_drew)); exact HO373.out) hb); have n1_ := Aside0.mk (below_step (by repeat (first | (with_reducible first | exact HB.out | apply below_alloc | apply pw_below_drewN | apply below_drew1) | exact HB.out)) hb); clear HO373; clear HB; have HO373 := n0_; have HB := n1_; clear n0_ n1_; (try clear hb); (try clear hb2); (try clear hk); (try clear hi)))
  as_aux_lemma =>
  go_upto_region 18 with (first | (go_at_call 13; (with_reducible refine (impl_SpokeNear.calls k _ _ t370 t371 t386 t387 _ ?side1 ?side2 A12.out).mono ?_); (case side1 => repeat (first | exact (Kd.R_reads' HO373.out).2.2 | (with_reducible refine Kd.C_alloc ?_ _) | (with_reducible refine Kd.C_drewN ?_ _) | (with_reducible refine Kd.C_drew ?_))); (case side2 => exact (Kd.R_reads' HO373.out).2.1); rintro e w29 ⟨rfl, hb⟩; have n0_ := Aside0.mk (Kd.R_below (by (with_reducible repeat (first | apply Kd.R_alloc | apply Kd.R_drewN | apply Kd.R_drew)); exact HO373.out) hb); have n1_ := Aside0.mk (below_step (by repeat (first | (with_reducible first | exact HB.out | apply below_alloc | apply pw_below_drewN | apply below_drew1) | exact HB.out)) hb); clear HO373; clear HB; have HO373 := n0_; have HB := n1_; clear n0_ n1_; (try clear hb); (try clear hb2); (try clear hk); (try clear hi)))
  as_aux_lemma =>
  go_upto_region 18 with (first | (go_at_call 14; (with_reducible refine (spec_SpokeNear.calls k _ _ t370 t371 t388 t389 _ ?side1 ?side2 A13.out).mono ?_); (case side1 => repeat (first | exact (Kd.R_reads' HO373.out).2.2 | (with_reducible refine Kd.C_alloc ?_ _) | (with_reducible refine Kd.C_drewN ?_ _) | (with_reducible refine Kd.C_drew ?_))); (case side2 => exact (Kd.R_reads' HO373.out).2.1); rintro e w30 ⟨rfl, hb⟩; have n0_ := Aside0.mk (Kd.R_below (by (with_reducible repeat (first | apply Kd.R_alloc | apply Kd.R_drewN | apply Kd.R_drew)); exact HO373.out) hb); have n1_ := Aside0.mk (below_step (by repeat (first | (with_reducible first | exact HB.out | apply below_alloc | apply pw_below_drewN | apply below_drew1) | exact HB.out)) hb); clear HO373; clear HB; have HO373 := n0_; have HB := n1_; clear n0_ n1_; (try clear hb); (try clear hb2); (try clear hk); (try clear hi)))
  as_aux_lemma =>
  go_upto_region 18 with (first | (go_at_call 15; (with_reducible refine (impl_SpokesOf.calls k _ _ t370 t390 t391 _ ?side1 ?side2 A14.out).mono ?_); (case side1 => repeat (first | exact (Kd.R_reads' HO373.out).2.2 | (with_reducible refine Kd.C_alloc ?_ _) | (with_reducible refine Kd.C_drewN ?_ _) | (with_reducible refine Kd.C_drew ?_))); (case side2 => exact (Kd.R_reads' HO373.out).2.1); rintro e w31 ⟨v392, rfl, ho0, hb⟩; have n0_ := Aside0.mk (Kd.R_below (by (with_reducible repeat (first | apply Kd.R_alloc | apply Kd.R_drewN | apply Kd.R_drew)); exact HO373.out) hb); have n1_ := Aside0.mk (Kd.R_lower ho0 (below_size (by repeat (first | (with_reducible first | exact HB.out | apply below_alloc | apply pw_below_drewN | apply below_drew1) | exact HB.out)))); have n2_ := Aside0.mk (below_step (by repeat (first | (with_reducible first | exact HB.out | apply below_alloc | apply pw_below_drewN | apply below_drew1) | exact HB.out)) hb); clear HO373; clear HB; have HO373 := n0_; have HO393 := n1_; have HB := n2_; clear n0_ n1_ n2_; (try clear hb); (try clear hb2); (try clear hk); (try clear hi); (try clear ho0)))
  as_aux_lemma =>
  go_upto_region 18 with (first | (go_at_call 16; (with_reducible refine (spec_SpokesOf.calls k _ _ t370 t394 t395 _ ?side1 ?side2 A15.out).mono ?_); (case side1 => repeat (first | exact (Kd.R_reads' HO373.out).2.2 | (with_reducible refine Kd.C_alloc ?_ _) | (with_reducible refine Kd.C_drewN ?_ _) | (with_reducible refine Kd.C_drew ?_))); (case side2 => exact (Kd.R_reads' HO373.out).2.1); rintro e w32 ⟨v396, rfl, ho0, hb⟩; have n0_ := Aside0.mk (Kd.R_below (by (with_reducible repeat (first | apply Kd.R_alloc | apply Kd.R_drewN | apply Kd.R_drew)); exact HO373.out) hb); have n1_ := Aside0.mk (Kd.R_elder' (by (with_reducible repeat (first | apply Kd.R_alloc | apply Kd.R_drewN | apply Kd.R_drew)); exact HO393.out) (Kd.R_base ho0) hb); have n2_ := Aside0.mk (Kd.R_lower (Kd.R_new' ho0 (Kd.R_lt (by (with_reducible repeat (first | apply Kd.R_alloc | apply Kd.R_drewN | apply Kd.R_drew)); exact HO393.out))) (below_size (by repeat (first | (with_reducible first | exact HB.out | apply below_alloc | apply pw_below_drewN | apply below_drew1) | exact HB.out)))); have n3_ := Aside0.mk (below_step (by repeat (first | (with_reducible first | exact HB.out | apply below_alloc | apply pw_below_drewN | apply below_drew1) | exact HB.out)) hb); clear HO373; clear HO393; clear HB; have HO373 := n0_; have HO393 := n1_; have HO397 := n2_; have HB := n3_; clear n0_ n1_ n2_ n3_; (try clear hb); (try clear hb2); (try clear hk); (try clear hi); (try clear ho0)))
  as_aux_lemma =>
  go_upto_region 18 with (first | (go_at_call 17; (with_reducible refine (impl_StepsOf.calls k _ _ t370 t398 t399 _ ?side1 ?side2 A16.out).mono ?_); (case side1 => repeat (first | exact (Kd.R_reads' HO373.out).2.2 | (with_reducible refine Kd.C_alloc ?_ _) | (with_reducible refine Kd.C_drewN ?_ _) | (with_reducible refine Kd.C_drew ?_))); (case side2 => exact (Kd.R_reads' HO373.out).2.1); rintro e w33 ⟨v400, rfl, ho0, hb⟩; have n0_ := Aside0.mk (Kd.R_below (by (with_reducible repeat (first | apply Kd.R_alloc | apply Kd.R_drewN | apply Kd.R_drew)); exact HO373.out) hb); have n1_ := Aside0.mk (Kd.R_elder' (by (with_reducible repeat (first | apply Kd.R_alloc | apply Kd.R_drewN | apply Kd.R_drew)); exact HO393.out) (Kd.R_base ho0) hb); have n2_ := Aside0.mk (Kd.R_elder' (by (with_reducible repeat (first | apply Kd.R_alloc | apply Kd.R_drewN | apply Kd.R_drew)); exact HO397.out) (Kd.R_base ho0) hb); have n3_ := Aside0.mk (Kd.R_lower (Kd.R_new' (Kd.R_new' ho0 (Kd.R_lt (by (with_reducible repeat (first | apply Kd.R_alloc | apply Kd.R_drewN | apply Kd.R_drew)); exact HO393.out))) (Kd.R_lt (by (with_reducible repeat (first | apply Kd.R_alloc | apply Kd.R_drewN | apply Kd.R_drew)); exact HO397.out))) (below_size (by repeat (first | (with_reducible first | exact HB.out | apply below_alloc | apply pw_below_drewN | apply below_drew1) | exact HB.out)))); have n4_ := Aside0.mk (below_step (by repeat (first | (with_reducible first | exact HB.out | apply below_alloc | apply pw_below_drewN | apply below_drew1) | exact HB.out)) hb); clear HO373; clear HO393; clear HO397; clear HB; have HO373 := n0_; have HO393 := n1_; have HO397 := n2_; have HO401 := n3_; have HB := n4_; clear n0_ n1_ n2_ n3_ n4_; (try clear hb); (try clear hb2); (try clear hk); (try clear hi); (try clear ho0)))
  as_aux_lemma =>
  go_upto_region 18 with (first | (go_at_call 18; (with_reducible refine (spec_StepsOf.calls k _ _ t370 t402 t403 _ ?side1 ?side2 A17.out).mono ?_); (case side1 => repeat (first | exact (Kd.R_reads' HO373.out).2.2 | (with_reducible refine Kd.C_alloc ?_ _) | (with_reducible refine Kd.C_drewN ?_ _) | (with_reducible refine Kd.C_drew ?_))); (case side2 => exact (Kd.R_reads' HO373.out).2.1); rintro e w34 ⟨v404, rfl, ho0, hb⟩; have n0_ := Aside0.mk (Kd.R_below (by (with_reducible repeat (first | apply Kd.R_alloc | apply Kd.R_drewN | apply Kd.R_drew)); exact HO373.out) hb); have n1_ := Aside0.mk (Kd.R_elder' (by (with_reducible repeat (first | apply Kd.R_alloc | apply Kd.R_drewN | apply Kd.R_drew)); exact HO393.out) (Kd.R_base ho0) hb); have n2_ := Aside0.mk (Kd.R_elder' (by (with_reducible repeat (first | apply Kd.R_alloc | apply Kd.R_drewN | apply Kd.R_drew)); exact HO397.out) (Kd.R_base ho0) hb); have n3_ := Aside0.mk (Kd.R_elder' (by (with_reducible repeat (first | apply Kd.R_alloc | apply Kd.R_drewN | apply Kd.R_drew)); exact HO401.out) (Kd.R_base ho0) hb); have n4_ := Aside0.mk (Kd.R_lower (Kd.R_new' (Kd.R_new' (Kd.R_new' ho0 (Kd.R_lt (by (with_reducible repeat (first | apply Kd.R_alloc | apply Kd.R_drewN | apply Kd.R_drew)); exact HO393.out))) (Kd.R_lt (by (with_reducible repeat (first | apply Kd.R_alloc | apply Kd.R_drewN | apply Kd.R_drew)); exact HO397.out))) (Kd.R_lt (by (with_reducible repeat (first | apply Kd.R_alloc | apply Kd.R_drewN | apply Kd.R_drew)); exact HO401.out))) (below_size (by repeat (first | (with_reducible first | exact HB.out | apply below_alloc | apply pw_below_drewN | apply below_drew1) | exact HB.out)))); have n5_ := Aside0.mk (below_step (by repeat (first | (with_reducible first | exact HB.out | apply below_alloc | apply pw_below_drewN | apply below_drew1) | exact HB.out)) hb); clear HO373; clear HO393; clear HO397; clear HO401; clear HB; have HO373 := n0_; have HO393 := n1_; have HO397 := n2_; have HO401 := n3_; have HO405 := n4_; have HB := n5_; clear n0_ n1_ n2_ n3_ n4_ n5_; (try clear hb); (try clear hb2); (try clear hk); (try clear hi); (try clear ho0)))
  as_aux_lemma =>
  go_upto_region 18 with (first | (go_at_call 19; (with_reducible refine (impl_CountSpokes.calls k _ _ t370 t406 t407 _ ?side1 ?side2 A18.out).mono ?_); (case side1 => repeat (first | exact (Kd.R_reads' HO373.out).2.2 | (with_reducible refine Kd.C_alloc ?_ _) | (with_reducible refine Kd.C_drewN ?_ _) | (with_reducible refine Kd.C_drew ?_))); (case side2 => exact (Kd.R_reads' HO373.out).2.1); rintro e w35 ⟨rfl, hb⟩; have n0_ := Aside0.mk (Kd.R_below (by (with_reducible repeat (first | apply Kd.R_alloc | apply Kd.R_drewN | apply Kd.R_drew)); exact HO373.out) hb); have n1_ := Aside0.mk (Kd.R_below (by (with_reducible repeat (first | apply Kd.R_alloc | apply Kd.R_drewN | apply Kd.R_drew)); exact HO393.out) hb); have n2_ := Aside0.mk (Kd.R_below (by (with_reducible repeat (first | apply Kd.R_alloc | apply Kd.R_drewN | apply Kd.R_drew)); exact HO397.out) hb); have n3_ := Aside0.mk (Kd.R_below (by (with_reducible repeat (first | apply Kd.R_alloc | apply Kd.R_drewN | apply Kd.R_drew)); exact HO401.out) hb); have n4_ := Aside0.mk (Kd.R_below (by (with_reducible repeat (first | apply Kd.R_alloc | apply Kd.R_drewN | apply Kd.R_drew)); exact HO405.out) hb); have n5_ := Aside0.mk (below_step (by repeat (first | (with_reducible first | exact HB.out | apply below_alloc | apply pw_below_drewN | apply below_drew1) | exact HB.out)) hb); clear HO373; clear HO393; clear HO397; clear HO401; clear HO405; clear HB; have HO373 := n0_; have HO393 := n1_; have HO397 := n2_; have HO401 := n3_; have HO405 := n4_; have HB := n5_; clear n0_ n1_ n2_ n3_ n4_ n5_; (try clear hb); (try clear hb2); (try clear hk); (try clear hi)))
  as_aux_lemma =>
  go_upto_region 18 with (first | (go_at_call 20; (with_reducible refine (spec_CountSpokes.calls k _ _ t370 t408 t409 _ ?side1 ?side2 A19.out).mono ?_); (case side1 => repeat (first | exact (Kd.R_reads' HO373.out).2.2 | (with_reducible refine Kd.C_alloc ?_ _) | (with_reducible refine Kd.C_drewN ?_ _) | (with_reducible refine Kd.C_drew ?_))); (case side2 => exact (Kd.R_reads' HO373.out).2.1); rintro e w36 ⟨rfl, hb⟩; have n0_ := Aside0.mk (Kd.R_below (by (with_reducible repeat (first | apply Kd.R_alloc | apply Kd.R_drewN | apply Kd.R_drew)); exact HO373.out) hb); have n1_ := Aside0.mk (Kd.R_below (by (with_reducible repeat (first | apply Kd.R_alloc | apply Kd.R_drewN | apply Kd.R_drew)); exact HO393.out) hb); have n2_ := Aside0.mk (Kd.R_below (by (with_reducible repeat (first | apply Kd.R_alloc | apply Kd.R_drewN | apply Kd.R_drew)); exact HO397.out) hb); have n3_ := Aside0.mk (Kd.R_below (by (with_reducible repeat (first | apply Kd.R_alloc | apply Kd.R_drewN | apply Kd.R_drew)); exact HO401.out) hb); have n4_ := Aside0.mk (Kd.R_below (by (with_reducible repeat (first | apply Kd.R_alloc | apply Kd.R_drewN | apply Kd.R_drew)); exact HO405.out) hb); have n5_ := Aside0.mk (below_step (by repeat (first | (with_reducible first | exact HB.out | apply below_alloc | apply pw_below_drewN | apply below_drew1) | exact HB.out)) hb); clear HO373; clear HO393; clear HO397; clear HO401; clear HO405; clear HB; have HO373 := n0_; have HO393 := n1_; have HO397 := n2_; have HO401 := n3_; have HO405 := n4_; have HB := n5_; clear n0_ n1_ n2_ n3_ n4_ n5_; (try clear hb); (try clear hb2); (try clear hk); (try clear hi)))
  repeat (go_quiet (first | (go_at_call 25; (with_reducible refine (laws_big.calls _ _ l0 _ _ l1 false _ ?side1 ?side2 ?side3 ?side4 A3.out).mono ?_); (case side1 => repeat (first | exact HR0.out | (with_reducible refine Kd.C_alloc ?_ _) | (with_reducible refine Kd.C_drewN ?_ _) | (with_reducible refine Kd.C_drew ?_))); (case side2 => exact HC0.out); (case side3 => repeat (first | exact HR1.out | (with_reducible refine Kd.C_alloc ?_ _) | (with_reducible refine Kd.C_drewN ?_ _) | (with_reducible refine Kd.C_drew ?_))); (case side4 => exact HC1.out); rintro e w' ⟨rfl, ⟨nd, rfl⟩⟩; (try first | exact ⟨rfl, _, World.drewN_drewN _ _ _⟩ | exact ⟨rfl, _, Eq.trans (World.drewN_drewN _ _ _) (congrArg (World.drewN _) (Nat.add_assoc _ _ _))⟩)) | (go_at_call 26; (with_reducible refine (spec_DrawSpokeOfRank.calls k _ _ l0 t370 t371 _ ?side1 ?side2 A5.out).mono ?_); (case side1 => repeat (first | exact HR0.out | (with_reducible refine Kd.C_alloc ?_ _) | (with_reducible refine Kd.C_drewN ?_ _) | (with_reducible refine Kd.C_drew ?_))); (case side2 => exact HC0.out); rintro e w21 ⟨v372, rfl, ho0, hb⟩; have n0_ := Aside0.mk (Kd.R_lower ho0 (below_size (by repeat (first | (with_reducible first | exact HB.out | apply below_alloc | apply pw_below_drewN | apply below_drew1) | exact HB.out)))); have n1_ := Aside0.mk (below_step (by repeat (first | (with_reducible first | exact HB.out | apply below_alloc | apply pw_below_drewN | apply below_drew1) | exact HB.out)) hb); clear HB; have HO373 := n0_; have HB := n1_; clear n0_ n1_; (try clear hb); (try clear hb2); (try clear hk); (try clear hi); (try clear ho0); obtain ⟨Ao22, co22, eo22⟩ := Kd.R_slice HO373.out; subst eo22) | (go_at_call 7; (with_reducible refine (impl_SpokeOfRank.calls k _ _ t370 t371 t374 t375 _ ?side1 ?side2 A6.out).mono ?_); (case side1 => repeat (first | exact (Kd.R_reads' HO373.out).2.2 | (with_reducible refine Kd.C_alloc ?_ _) | (with_reducible refine Kd.C_drewN ?_ _) | (with_reducible refine Kd.C_drew ?_))); (case side2 => exact (Kd.R_reads' HO373.out).2.1); rintro e w23 ⟨rfl, hb⟩; have n0_ := Aside0.mk (Kd.R_below (by (with_reducible repeat (first | apply Kd.R_alloc | apply Kd.R_drewN | apply Kd.R_drew)); exact HO373.out) hb); have n1_ := Aside0.mk (below_step (by repeat (first | (with_reducible first | exact HB.out | apply below_alloc | apply pw_below_drewN | apply below_drew1) | exact HB.out)) hb); clear HO373; clear HB; have HO373 := n0_; have HB := n1_; clear n0_ n1_; (try clear hb); (try clear hb2); (try clear hk); (try clear hi)) | (go_at_call 8; (with_reducible refine (spec_SpokeOfRank.calls k _ _ t370 t371 t376 t377 _ ?side1 ?side2 A7.out).mono ?_); (case side1 => repeat (first | exact (Kd.R_reads' HO373.out).2.2 | (with_reducible refine Kd.C_alloc ?_ _) | (with_reducible refine Kd.C_drewN ?_ _) | (with_reducible refine Kd.C_drew ?_))); (case side2 => exact (Kd.R_reads' HO373.out).2.1); rintro e w24 ⟨rfl, hb⟩; have n0_ := Aside0.mk (Kd.R_below (by (with_reducible repeat (first | apply Kd.R_alloc | apply Kd.R_drewN | apply Kd.R_drew)); exact HO373.out) hb); have n1_ := Aside0.mk (below_step (by repeat (first | (with_reducible first | exact HB.out | apply below_alloc | apply pw_below_drewN | apply below_drew1) | exact HB.out)) hb); clear HO373; clear HB; have HO373 := n0_; have HB := n1_; clear n0_ n1_; (try clear hb); (try clear hb2); (try clear hk); (try clear hi)) | (go_at_call 9; (with_reducible refine (impl_RankOfSpoke.calls k _ _ t370 t371 t378 t379 _ ?side1 ?side2 A8.out).mono ?_); (case side1 => repeat (first | exact (Kd.R_reads' HO373.out).2.2 | (with_reducible refine Kd.C_alloc ?_ _) | (with_reducible refine Kd.C_drewN ?_ _) | (with_reducible refine Kd.C_drew ?_))); (case side2 => exact (Kd.R_reads' HO373.out).2.1); rintro e w25 ⟨rfl, hb⟩; have n0_ := Aside0.mk (Kd.R_below (by (with_reducible repeat (first | apply Kd.R_alloc | apply Kd.R_drewN | apply Kd.R_drew)); exact HO373.out) hb); have n1_ := Aside0.mk (below_step (by repeat (first | (with_reducible first | exact HB.out | apply below_alloc | apply pw_below_drewN | apply below_drew1) | exact HB.out)) hb); clear HO373; clear HB; have HO373 := n0_; have HB := n1_; clear n0_ n1_; (try clear hb); (try clear hb2); (try clear hk); (try clear hi)) | (go_at_call 10; (with_reducible refine (spec_RankOfSpoke.calls k _ _ t370 t371 t380 t381 _ ?side1 ?side2 A9.out).mono ?_); (case side1 => repeat (first | exact (Kd.R_reads' HO373.out).2.2 | (with_reducible refine Kd.C_alloc ?_ _) | (with_reducible refine Kd.C_drewN ?_ _) | (with_reducible refine Kd.C_drew ?_))); (case side2 => exact (Kd.R_reads' HO373.out).2.1); rintro e w26 ⟨rfl, hb⟩; have n0_ := Aside0.mk (Kd.R_below (by (with_reducible repeat (first | apply Kd.R_alloc | apply Kd.R_drewN | apply Kd.R_drew)); exact HO373.out) hb); have n1_ := Aside0.mk (below_step (by repeat (first | (with_reducible first | exact HB.out | apply below_alloc | apply pw_below_drewN | apply below_drew1) | exact HB.out)) hb); clear HO373; clear HB; have HO373 := n0_; have HB := n1_; clear n0_ n1_; (try clear hb); (try clear hb2); (try clear hk); (try clear hi)) | (go_at_call 11; (with_reducible refine (impl_IsSpoke.calls k _ _ t370 t371 t382 t383 _ ?side1 ?side2 A10.out).mono ?_); (case side1 => repeat (first | exact (Kd.R_reads' HO373.out).2.2 | (with_reducible refine Kd.C_alloc ?_ _) | (with_reducible refine Kd.C_drewN ?_ _) | (with_reducible refine Kd.C_drew ?_))); (case side2 => exact (Kd.R_reads' HO373.out).2.1); rintro e w27 ⟨rfl, hb⟩; have n0_ := Aside0.mk (Kd.R_below (by (with_reducible repeat (first | apply Kd.R_alloc | apply Kd.R_drewN | apply Kd.R_drew)); exact HO373.out) hb); have n1_ := Aside0.mk (below_step (by repeat (first | (with_reducible first | exact HB.out | apply below_alloc | apply pw_below_drewN | apply below_drew1) | exact HB.out)) hb); clear HO373; clear HB; have HO373 := n0_; have HB := n1_; clear n0_ n1_; (try clear hb); (try clear hb2); (try clear hk); (try clear hi)) | (go_at_call 12; (with_reducible refine (spec_IsSpoke.calls k _ _ t370 t371 t384 t385 _ ?side1 ?side2 A11.out).mono ?_); (case side1 => repeat (first | exact (Kd.R_reads' HO373.out).2.2 | (with_reducible refine Kd.C_alloc ?_ _) | (with_reducible refine Kd.C_drewN ?_ _) | (with_reducible refine Kd.C_drew ?_))); (case side2 => exact (Kd.R_reads' HO373.out).2.1); rintro e w28 ⟨rfl, hb⟩; have n0_ := Aside0.mk (Kd.R_below (by (with_reducible repeat (first | apply Kd.R_alloc | apply Kd.R_drewN | apply Kd.R_drew)); exact HO373.out) hb); have n1_ := Aside0.mk (below_step (by repeat (first | (with_reducible first | exact HB.out | apply below_alloc | apply pw_below_drewN | apply below_drew1) | exact HB.out)) hb); clear HO373; clear HB; have HO373 := n0_; have HB := n1_; clear n0_ n1_; (try clear hb); (try clear hb2); (try clear hk); (try clear hi)) | (go_at_call 13; (with_reducible refine (impl_SpokeNear.calls k _ _ t370 t371 t386 t387 _ ?side1 ?side2 A12.out).mono ?_); (case side1 => repeat (first | exact (Kd.R_reads' HO373.out).2.2 | (with_reducible refine Kd.C_alloc ?_ _) | (with_reducible refine Kd.C_drewN ?_ _) | (with_reducible refine Kd.C_drew ?_))); (case side2 => exact (Kd.R_reads' HO373.out).2.1); rintro e w29 ⟨rfl, hb⟩; have n0_ := Aside0.mk (Kd.R_below (by (with_reducible repeat (first | apply Kd.R_alloc | apply Kd.R_drewN | apply Kd.R_drew)); exact HO373.out) hb); have n1_ := Aside0.mk (below_step (by repeat (first | (with_reducible first | exact HB.out | apply below_alloc | apply pw_below_drewN | apply below_drew1) | exact HB.out)) hb); clear HO373; clear HB; have HO373 := n0_; have HB := n1_; clear n0_ n1_; (try clear hb); (try clear hb2); (try clear hk); (try clear hi)) | (go_at_call 14; (with_reducible refine (spec_SpokeNear.calls k _ _ t370 t371 t388 t389 _ ?side1 ?side2 A13.out).mono ?_); (case side1 => repeat (first | exact (Kd.R_reads' HO373.out).2.2 | (with_reducible refine Kd.C_alloc ?_ _) | (with_reducible refine Kd.C_drewN ?_ _) | (with_reducible refine Kd.C_drew ?_))); (case side2 => exact (Kd.R_reads' HO373.out).2.1); rintro e w30 ⟨rfl, hb⟩; have n0_ := Aside0.mk (Kd.R_below (by (with_reducible repeat (first | apply Kd.R_alloc | apply Kd.R_drewN | apply Kd.R_drew)); exact HO373.out) hb); have n1_ := Aside0.mk (below_step (by repeat (first | (with_reducible first | exact HB.out | apply below_alloc | apply pw_below_drewN | apply below_drew1) | exact HB.out)) hb); clear HO373; clear HB; have HO373 := n0_; have HB := n1_; clear n0_ n1_; (try clear hb); (try clear hb2); (try clear hk); (try clear hi)) | (go_at_call 15; (with_reducible refine (impl_SpokesOf.calls k _ _ t370 t390 t391 _ ?side1 ?side2 A14.out).mono ?_); (case side1 => repeat (first | exact (Kd.R_reads' HO373.out).2.2 | (with_reducible refine Kd.C_alloc ?_ _) | (with_reducible refine Kd.C_drewN ?_ _) | (with_reducible refine Kd.C_drew ?_))); (case side2 => exact (Kd.R_reads' HO373.out).2.1); rintro e w31 ⟨v392, rfl, ho0, hb⟩; have n0_ := Aside0.mk (Kd.R_below (by (with_reducible repeat (first | apply Kd.R_alloc | apply Kd.R_drewN | apply Kd.R_drew)); exact HO373.out) hb); have n1_ := Aside0.mk (Kd.R_lower ho0 (below_size (by repeat (first | (with_reducible first | exact HB.out | apply below_alloc | apply pw_below_drewN | apply below_drew1) | exact HB.out)))); have n2_ := Aside0.mk (below_step (by repeat (first | (with_reducible first | exact HB.out | apply below_alloc | apply pw_below_drewN | apply below_drew1) | exact HB.out)) hb); clear HO373; clear HB; have HO373 := n0_; have HO393 := n1_; have HB := n2_; clear n0_ n1_ n2_; (try clear hb); (try clear hb2); (try clear hk); (try clear hi); (try clear ho0)) | (go_at_call 16; (with_reducible refine (spec_SpokesOf.calls k _ _ t370 t394 t395 _ ?side1 ?side2 A15.out).mono ?_); (case side1 => repeat (first | exact (Kd.R_reads' HO373.out).2.2 | (with_reducible refine Kd.C_alloc ?_ _) | (with_reducible refine Kd.C_drewN ?_ _) | (with_reducible refine Kd.C_drew ?_))); (case side2 => exact (Kd.R_reads' HO373.out).2.1); rintro e w32 ⟨v396, rfl, ho0, hb⟩; have n0_ := Aside0.mk (Kd.R_below (by (with_reducible repeat (first | apply Kd.R_alloc | apply Kd.R_drewN | apply Kd.R_drew)); exact HO373.out) hb); have n1_ := Aside0.mk (Kd.R_elder' (by (with_reducible repeat (first | apply Kd.R_alloc | apply Kd.R_drewN | apply Kd.R_drew)); exact HO393.out) (Kd.R_base ho0) hb); have n2_ := Aside0.mk (Kd.R_lower (Kd.R_new' ho0 (Kd.R_lt (by (with_reducible repeat (first | apply Kd.R_alloc | apply Kd.R_drewN | apply Kd.R_drew)); exact HO393.out))) (below_size (by repeat (first | (with_reducible first | exact HB.out | apply below_alloc | apply pw_below_drewN | apply below_drew1) | exact HB.out)))); have n3_ := Aside0.mk (below_step (by repeat (first | (with_reducible first | exact HB.out | apply below_alloc | apply pw_below_drewN | apply below_drew1) | exact HB.out)) hb); clear HO373; clear HO393; clear HB; have HO373 := n0_; have HO393 := n1_; have HO397 := n2_; have HB := n3_; clear n0_ n1_ n2_ n3_; (try clear hb); (try clear hb2); (try clear hk); (try clear hi); (try clear ho0)) | (go_at_call 17; (with_reducible refine (impl_StepsOf.calls k _ _ t370 t398 t399 _ ?side1 ?side2 A16.out).mono ?_); (case side1 => repeat (first | exact (Kd.R_reads' HO373.out).2.2 | (with_reducible refine Kd.C_alloc ?_ _) | (with_reducible refine Kd.C_drewN ?_ _) | (with_reducible refine Kd.C_drew ?_))); (case side2 => exact (Kd.R_reads' HO373.out).2.1); rintro e w33 ⟨v400, rfl, ho0, hb⟩; have n0_ := Aside0.mk (Kd.R_below (by (with_reducible repeat (first | apply Kd.R_alloc | apply Kd.R_drewN | apply Kd.R_drew)); exact HO373.out) hb); have n1_ := Aside0.mk (Kd.R_elder' (by (with_reducible repeat (first | apply Kd.R_alloc | apply Kd.R_drewN | apply Kd.R_drew)); exact HO393.out) (Kd.R_base ho0) hb); have n2_ := Aside0.mk (Kd.R_elder' (by (with_reducible repeat (first | apply Kd.R_alloc | apply Kd.R_drewN | apply Kd.R_drew)); exact HO397.out) (Kd.R_base ho0) hb); have n3_ := Aside0.mk (Kd.R_lower (Kd.R_new' (Kd.R_new' ho0 (Kd.R_lt (by (with_reducible repeat (first | apply Kd.R_alloc | apply Kd.R_drewN | apply Kd.R_drew)); exact HO393.out))) (Kd.R_lt (by (with_reducible repeat (first | apply Kd.R_alloc | apply Kd.R_drewN | apply Kd.R_drew)); exact HO397.out))) (below_size (by repeat (first | (with_reducible first | exact HB.out | apply below_alloc | apply pw_below_drewN | apply below_drew1) | exact HB.out)))); have n4_ := Aside0.mk (below_step (by repeat (first | (with_reducible first | exact HB.out | apply below_alloc | apply pw_below_drewN | apply below_drew1) | exact HB.out)) hb); clear HO373; clear HO393; clear HO397; clear HB; have HO373 := n0_; have HO393 := n1_; have HO397 := n2_; have HO401 := n3_; have HB := n4_; clear n0_ n1_ n2_ n3_ n4_; (try clear hb); (try clear hb2); (try clear hk); (try clear hi); (try clear ho0)) | (go_at_call 18; (with_reducible refine (spec_StepsOf.calls k _ _ t370 t402 t403 _ ?side1 ?side2 A17.out).mono ?_); (case side1 => repeat (first | exact (Kd.R_reads' HO373.out).2.2 | (with_reducible refine Kd.C_alloc ?_ _) | (with_reducible refine Kd.C_drewN ?_ _) | (with_reducible refine Kd.C_drew ?_))); (case side2 => exact (Kd.R_reads' HO373.out).2.1); rintro e w34 ⟨v404, rfl, ho0, hb⟩; have n0_ := Aside0.mk (Kd.R_below (by (with_reducible repeat (first | apply Kd.R_alloc | apply Kd.R_drewN | apply Kd.R_drew)); exact HO373.out) hb); have n1_ := Aside0.mk (Kd.R_elder' (by (with_reducible repeat (first | apply Kd.R_alloc | apply Kd.R_drewN | apply Kd.R_drew)); exact HO393.out) (Kd.R_base ho0) hb); have n2_ := Aside0.mk (Kd.R_elder' (by (with_reducible repeat (first | apply Kd.R_alloc | apply Kd.R_drewN | apply Kd.R_drew)); exact HO397.out) (Kd.R_base ho0) hb); have n3_ := Aside0.mk (Kd.R_elder' (by (with_reducible repeat (first | apply Kd.R_alloc | apply Kd.R_drewN | apply Kd.R_drew)); exact HO401.out) (Kd.R_base ho0) hb); have n4_ := Aside0.mk (Kd.R_lower (Kd.R_new' (Kd.R_new' (Kd.R_new' ho0 (Kd.R_lt (by (with_reducible repeat (first | apply Kd.R_alloc | apply Kd.R_drewN | apply Kd.R_drew)); exact HO393.out))) (Kd.R_lt (by (with_reducible repeat (first | apply Kd.R_alloc | apply Kd.R_drewN | apply Kd.R_drew)); exact HO397.out))) (Kd.R_lt (by (with_reducible repeat (first | apply Kd.R_alloc | apply Kd.R_drewN | apply Kd.R_drew)); exact HO401.out))) (below_size (by repeat (first | (with_reducible first | exact HB.out | apply below_alloc | apply pw_below_drewN | apply below_drew1) | exact HB.out)))); have n5_ := Aside0.mk (below_step (by repeat (first | (with_reducible first | exact HB.out | apply below_alloc | apply pw_below_drewN | apply below_drew1) | exact HB.out)) hb); clear HO373; clear HO393; clear HO397; clear HO401; clear HB; have HO373 := n0_; have HO393 := n1_; have HO397 := n2_; have HO401 := n3_; have HO405 := n4_; have HB := n5_; clear n0_ n1_ n2_ n3_ n4_ n5_; (try clear hb); (try clear hb2); (try clear hk); (try clear hi); (try clear ho0)) | (go_at_call 19; (with_reducible refine (impl_CountSpokes.calls k _ _ t370 t406 t407 _ ?side1 ?side2 A18.out).mono ?_); (case side1 => repeat (first | exact (Kd.R_reads' HO373.out).2.2 | (with_reducible refine Kd.C_alloc ?_ _) | (with_reducible refine Kd.C_drewN ?_ _) | (with_reducible refine Kd.C_drew ?_))); (case side2 => exact (Kd.R_reads' HO373.out).2.1); rintro e w35 ⟨rfl, hb⟩; have n0_ := Aside0.mk (Kd.R_below (by (with_reducible repeat (first | apply Kd.R_alloc | apply Kd.R_drewN | apply Kd.R_drew)); exact HO373.out) hb); have n1_ := Aside0.mk (Kd.R_below (by (with_reducible repeat (first | apply Kd.R_alloc | apply Kd.R_drewN | apply Kd.R_drew)); exact HO393.out) hb); have n2_ := Aside0.mk (Kd.R_below (by (with_reducible repeat (first | apply Kd.R_alloc | apply Kd.R_drewN | apply Kd.R_drew)); exact HO397.out) hb); have n3_ := Aside0.mk (Kd.R_below (by (with_reducible repeat (first | apply Kd.R_alloc | apply Kd.R_drewN | apply Kd.R_drew)); exact HO401.out) hb); have n4_ := Aside0.mk (Kd.R_below (by (with_reducible repeat (first | apply Kd.R_alloc | apply Kd.R_drewN | apply Kd.R_drew)); exact HO405.out) hb); have n5_ := Aside0.mk (below_step (by repeat (first | (with_reducible first | exact HB.out | apply below_alloc | apply pw_below_drewN | apply below_drew1) | exact HB.out)) hb); clear HO373; clear HO393; clear HO397; clear HO401; clear HO405; clear HB; have HO373 := n0_; have HO393 := n1_; have HO397 := n2_; have HO401 := n3_; have HO405 := n4_; have HB := n5_; clear n0_ n1_ n2_ n3_ n4_ n5_; (try clear hb); (try clear hb2); (try clear hk); (try clear hi)) | (go_at_call 20; (with_reducible refine (spec_CountSpokes.calls k _ _ t370 t408 t409 _ ?side1 ?side2 A19.out).mono ?_); (case side1 => repeat (first | exact (Kd.R_reads' HO373.out).2.2 | (with_reducible refine Kd.C_alloc ?_ _) | (with_reducible refine Kd.C_drewN ?_ _) | (with_reducible refine Kd.C_drew ?_))); (case side2 => exact (Kd.R_reads' HO373.out).2.1); rintro e w36 ⟨rfl, hb⟩; have n0_ := Aside0.mk (Kd.R_below (by (with_reducible repeat (first | apply Kd.R_alloc | apply Kd.R_drewN | apply Kd.R_drew)); exact HO373.out) hb); have n1_ := Aside0.mk (Kd.R_below (by (with_reducible repeat (first | apply Kd.R_alloc | apply Kd.R_drewN | apply Kd.R_drew)); exact HO393.out) hb); have n2_ := Aside0.mk (Kd.R_below (by (with_reducible repeat (first | apply Kd.R_alloc | apply Kd.R_drewN | apply Kd.R_drew)); exact HO397.out) hb); have n3_ := Aside0.mk (Kd.R_below (by (with_reducible repeat (first | apply Kd.R_alloc | apply Kd.R_drewN | apply Kd.R_drew)); exact HO401.out) hb); have n4_ := Aside0.mk (Kd.R_below (by (with_reducible repeat (first | apply Kd.R_alloc | apply Kd.R_drewN | apply Kd.R_drew)); exact HO405.out) hb); have n5_ := Aside0.mk (below_step (by repeat (first | (with_reducible first | exact HB.out | apply below_alloc | apply pw_below_drewN | apply below_drew1) | exact HB.out)) hb); clear HO373; clear HO393; clear HO397; clear HO401; clear HO405; clear HB; have HO373 := n0_; have HO393 := n1_; have HO397 := n2_; have HO401 := n3_; have HO405 := n4_; have HB := n5_; clear n0_ n1_ n2_ n3_ n4_ n5_; (try clear hb); (try clear hb2); (try clear hk); (try clear hi))); go_upto_region 18 with (first | (go_at_call 25; (with_reducible refine (laws_big.calls _ _ l0 _ _ l1 false _ ?side1 ?side2 ?side3 ?side4 A3.out).mono ?_); (case side1 => repeat (first | exact HR0.out | (with_reducible refine Kd.C_alloc ?_ _) | (with_reducible refine Kd.C_drewN ?_ _) | (with_reducible refine Kd.C_drew ?_))); (case side2 => exact HC0.out); (case side3 => repeat (first | exact HR1.out | (with_reducible refine Kd.C_alloc ?_ _) | (with_reducible refine Kd.C_drewN ?_ _) | (with_reducible refine Kd.C_drew ?_))); (case side4 => exact HC1.out); rintro e w' ⟨rfl, ⟨nd, rfl⟩⟩; (try first | exact ⟨rfl, _, World.drewN_drewN _ _ _⟩ | exact ⟨rfl, _, Eq.trans (World.drewN_drewN _ _ _) (congrArg (World.drewN _) (Nat.add_assoc _ _ _))⟩)) | (go_at_call 26; (with_reducible refine (spec_DrawSpokeOfRank.calls k _ _ l0 t370 t371 _ ?side1 ?side2 A5.out).mono ?_); (case side1 => repeat (first | exact HR0.out | (with_reducible refine Kd.C_alloc ?_ _) | (with_reducible refine Kd.C_drewN ?_ _) | (with_reducible refine Kd.C_drew ?_))); (case side2 => exact HC0.out); rintro e w21 ⟨v372, rfl, ho0, hb⟩; have n0_ := Aside0.mk (Kd.R_lower ho0 (below_size (by repeat (first | (with_reducible first | exact HB.out | apply below_alloc | apply pw_below_drewN | apply below_drew1) | exact HB.out)))); have n1_ := Aside0.mk (below_step (by repeat (first | (with_reducible first | exact HB.out | apply below_alloc | apply pw_below_drewN | apply below_drew1) | exact HB.out)) hb); clear HB; have HO373 := n0_; have HB := n1_; clear n0_ n1_; (try clear hb); (try clear hb2); (try clear hk); (try clear hi); (try clear ho0); obtain ⟨Ao22, co22, eo22⟩ := Kd.R_slice HO373.out; subst eo22) | (go_at_call 7; (with_reducible refine (impl_SpokeOfRank.calls k _ _ t370 t371 t374 t375 _ ?side1 ?side2 A6.out).mono ?_); (case side1 => repeat (first | exact (Kd.R_reads' HO373.out).2.2 | (with_reducible refine Kd.C_alloc ?_ _) | (with_reducible refine Kd.C_drewN ?_ _) | (with_reducible refine Kd.C_drew ?_))); (case side2 => exact (Kd.R_reads' HO373.out).2.1); rintro e w23 ⟨rfl, hb⟩; have n0_ := Aside0.mk (Kd.R_below (by (with_reducible repeat (first | apply Kd.R_alloc | apply Kd.R_drewN | apply Kd.R_drew)); exact HO373.out) hb); have n1_ := Aside0.mk (below_step (by repeat (first | (with_reducible first | exact HB.out | apply below_alloc | apply pw_below_drewN | apply below_drew1) | exact HB.out)) hb); clear HO373; clear HB; have HO373 := n0_; have HB := n1_; clear n0_ n1_; (try clear hb); (try clear hb2); (try clear hk); (try clear hi)) | (go_at_call 8; (with_reducible refine (spec_SpokeOfRank.calls k _ _ t370 t371 t376 t377 _ ?side1 ?side2 A7.out).mono ?_); (case side1 => repeat (first | exact (Kd.R_reads' HO373.out).2.2 | (with_reducible refine Kd.C_alloc ?_ _) | (with_reducible refine Kd.C_drewN ?_ _) | (with_reducible refine Kd.C_drew ?_))); (case side2 => exact (Kd.R_reads' HO373.out).2.1); rintro e w24 ⟨rfl, hb⟩; have n0_ := Aside0.mk (Kd.R_below (by (with_reducible repeat (first | apply Kd.R_alloc | apply Kd.R_drewN | apply Kd.R_drew)); exact HO373.out) hb); have n1_ := Aside0.mk (below_step (by repeat (first | (with_reducible first | exact HB.out | apply below_alloc | apply pw_below_drewN | apply below_drew1) | exact HB.out)) hb); clear HO373; clear HB; have HO373 := n0_; have HB := n1_; clear n0_ n1_; (try clear hb); (try clear hb2); (try clear hk); (try clear hi)) | (go_at_call 9; (with_reducible refine (impl_RankOfSpoke.calls k _ _ t370 t371 t378 t379 _ ?side1 ?side2 A8.out).mono ?_); (case side1 => repeat (first | exact (Kd.R_reads' HO373.out).2.2 | (with_reducible refine Kd.C_alloc ?_ _) | (with_reducible refine Kd.C_drewN ?_ _) | (with_reducible refine Kd.C_drew ?_))); (case side2 => exact (Kd.R_reads' HO373.out).2.1); rintro e w25 ⟨rfl, hb⟩; have n0_ := Aside0.mk (Kd.R_below (by (with_reducible repeat (first | apply Kd.R_alloc | apply Kd.R_drewN | apply Kd.R_drew)); exact HO373.out) hb); have n1_ := Aside0.mk (below_step (by repeat (first | (with_reducible first | exact HB.out | apply below_alloc | apply pw_below_drewN | apply below_drew1) | exact HB.out)) hb); clear HO373; clear HB; have HO373 := n0_; have HB := n1_; clear n0_ n1_; (try clear hb); (try clear hb2); (try clear hk); (try clear hi)) | (go_at_call 10; (with_reducible refine (spec_RankOfSpoke.calls k _ _ t370 t371 t380 t381 _ ?side1 ?side2 A9.out).mono ?_); (case side1 => repeat (first | exact (Kd.R_reads' HO373.out).2.2 | (with_reducible refine Kd.C_alloc ?_ _) | (with_reducible refine Kd.C_drewN ?_ _) | (with_reducible refine Kd.C_drew ?_))); (case side2 => exact (Kd.R_reads' HO373.out).2.1); rintro e w26 ⟨rfl, hb⟩; have n0_ := Aside0.mk (Kd.R_below (by (with_reducible repeat (first | apply Kd.R_alloc | apply Kd.R_drewN | apply Kd.R_drew)); exact HO373.out) hb); have n1_ := Aside0.mk (below_step (by repeat (first | (with_reducible first | exact HB.out | apply below_alloc | apply pw_below_drewN | apply below_drew1) | exact HB.out)) hb); clear HO373; clear HB; have HO373 := n0_; have HB := n1_; clear n0_ n1_; (try clear hb); (try clear hb2); (try clear hk); (try clear hi)) | (go_at_call 11; (with_reducible refine (impl_IsSpoke.calls k _ _ t370 t371 t382 t383 _ ?side1 ?side2 A10.out).mono ?_); (case side1 => repeat (first | exact (Kd.R_reads' HO373.out).2.2 | (with_reducible refine Kd.C_alloc ?_ _) | (with_reducible refine Kd.C_drewN ?_ _) | (with_reducible refine Kd.C_drew ?_))); (case side2 => exact (Kd.R_reads' HO373.out).2.1); rintro e w27 ⟨rfl, hb⟩; have n0_ := Aside0.mk (Kd.R_below (by (with_reducible repeat (first | apply Kd.R_alloc | apply Kd.R_drewN | apply Kd.R_drew)); exact HO373.out) hb); have n1_ := Aside0.mk (below_step (by repeat (first | (with_reducible first | exact HB.out | apply below_alloc | apply pw_below_drewN | apply below_drew1) | exact HB.out)) hb); clear HO373; clear HB; have HO373 := n0_; have HB := n1_; clear n0_ n1_; (try clear hb); (try clear hb2); (try clear hk); (try clear hi)) | (go_at_call 12; (with_reducible refine (spec_IsSpoke.calls k _ _ t370 t371 t384 t385 _ ?side1 ?side2 A11.out).mono ?_); (case side1 => repeat (first | exact (Kd.R_reads' HO373.out).2.2 | (with_reducible refine Kd.C_alloc ?_ _) | (with_reducible refine Kd.C_drewN ?_ _) | (with_reducible refine Kd.C_drew ?_))); (case side2 => exact (Kd.R_reads' HO373.out).2.1); rintro e w28 ⟨rfl, hb⟩; have n0_ := Aside0.mk (Kd.R_below (by (with_reducible repeat (first | apply Kd.R_alloc | apply Kd.R_drewN | apply Kd.R_drew)); exact HO373.out) hb); have n1_ := Aside0.mk (below_step (by repeat (first | (with_reducible first | exact HB.out | apply below_alloc | apply pw_below_drewN | apply below_drew1) | exact HB.out)) hb); clear HO373; clear HB; have HO373 := n0_; have HB := n1_; clear n0_ n1_; (try clear hb); (try clear hb2); (try clear hk); (try clear hi)) | (go_at_call 13; (with_reducible refine (impl_SpokeNear.calls k _ _ t370 t371 t386 t387 _ ?side1 ?side2 A12.out).mono ?_); (case side1 => repeat (first | exact (Kd.R_reads' HO373.out).2.2 | (with_reducible refine Kd.C_alloc ?_ _) | (with_reducible refine Kd.C_drewN ?_ _) | (with_reducible refine Kd.C_drew ?_))); (case side2 => exact (Kd.R_reads' HO373.out).2.1); rintro e w29 ⟨rfl, hb⟩; have n0_ := Aside0.mk (Kd.R_below (by (with_reducible repeat (first | apply Kd.R_alloc | apply Kd.R_drewN | apply Kd.R_drew)); exact HO373.out) hb); have n1_ := Aside0.mk (below_step (by repeat (first | (with_reducible first | exact HB.out | apply below_alloc | apply pw_below_drewN | apply below_drew1) | exact HB.out)) hb); clear HO373; clear HB; have HO373 := n0_; have HB := n1_; clear n0_ n1_; (try clear hb); (try clear hb2); (try clear hk); (try clear hi)) | (go_at_call 14; (with_reducible refine (spec_SpokeNear.calls k _ _ t370 t371 t388 t389 _ ?side1 ?side2 A13.out).mono ?_); (case side1 => repeat (first | exact (Kd.R_reads' HO373.out).2.2 | (with_reducible refine Kd.C_alloc ?_ _) | (with_reducible refine Kd.C_drewN ?_ _) | (with_reducible refine Kd.C_drew ?_))); (case side2 => exact (Kd.R_reads' HO373.out).2.1); rintro e w30 ⟨rfl, hb⟩; have n0_ := Aside0.mk (Kd.R_below (by (with_reducible repeat (first | apply Kd.R_alloc | apply Kd.R_drewN | apply Kd.R_drew)); exact HO373.out) hb); have n1_ := Aside0.mk (below_step (by repeat (first | (with_reducible first | exact HB.out | apply below_alloc | apply pw_below_drewN | apply below_drew1) | exact HB.out)) hb); clear HO373; clear HB; have HO373 := n0_; have HB := n1_; clear n0_ n1_; (try clear hb); (try clear hb2); (try clear hk); (try clear hi)) | (go_at_call 15; (with_reducible refine (impl_SpokesOf.calls k _ _ t370 t390 t391 _ ?side1 ?side2 A14.out).mono ?_); (case side1 => repeat (first | exact (Kd.R_reads' HO373.out).2.2 | (with_reducible refine Kd.C_alloc ?_ _) | (with_reducible refine Kd.C_drewN ?_ _) | (with_reducible refine Kd.C_drew ?_))); (case side2 => exact (Kd.R_reads' HO373.out).2.1); rintro e w31 ⟨v392, rfl, ho0, hb⟩; have n0_ := Aside0.mk (Kd.R_below (by (with_reducible repeat (first | apply Kd.R_alloc | apply Kd.R_drewN | apply Kd.R_drew)); exact HO373.out) hb); have n1_ := Aside0.mk (Kd.R_lower ho0 (below_size (by repeat (first | (with_reducible first | exact HB.out | apply below_alloc | apply pw_below_drewN | apply below_drew1) | exact HB.out)))); have n2_ := Aside0.mk (below_step (by repeat (first | (with_reducible first | exact HB.out | apply below_alloc | apply pw_below_drewN | apply below_drew1) | exact HB.out)) hb); clear HO373; clear HB; have HO373 := n0_; have HO393 := n1_; have HB := n2_; clear n0_ n1_ n2_; (try clear hb); (try clear hb2); (try clear hk); (try clear hi); (try clear ho0)) | (go_at_call 16; (with_reducible refine (spec_SpokesOf.calls k _ _ t370 t394 t395 _ ?side1 ?side2 A15.out).mono ?_); (case side1 => repeat (first | exact (Kd.R_reads' HO373.out).2.2 | (with_reducible refine Kd.C_alloc ?_ _) | (with_reducible refine Kd.C_drewN ?_ _) | (with_reducible refine Kd.C_drew ?_))); (case side2 => exact (Kd.R_reads' HO373.out).2.1); rintro e w32 ⟨v396, rfl, ho0, hb⟩; have n0_ := Aside0.mk (Kd.R_below (by (with_reducible repeat (first | apply Kd.R_alloc | apply Kd.R_drewN | apply Kd.R_drew)); exact HO373.out) hb); have n1_ := Aside0.mk (Kd.R_elder' (by (with_reducible repeat (first | apply Kd.R_alloc | apply Kd.R_drewN | apply Kd.R_drew)); exact HO393.out) (Kd.R_base ho0) hb); have n2_ := Aside0.mk (Kd.R_lower (Kd.R_new' ho0 (Kd.R_lt (by (with_reducible repeat (first | apply Kd.R_alloc | apply Kd.R_drewN | apply Kd.R_drew)); exact HO393.out))) (below_size (by repeat (first | (with_reducible first | exact HB.out | apply below_alloc | apply pw_below_drewN | apply below_drew1) | exact HB.out)))); have n3_ := Aside0.mk (below_step (by repeat (first | (with_reducible first | exact HB.out | apply below_alloc | apply pw_below_drewN | apply below_drew1) | exact HB.out)) hb); clear HO373; clear HO393; clear HB; have HO373 := n0_; have HO393 := n1_; have HO397 := n2_; have HB := n3_; clear n0_ n1_ n2_ n3_; (try clear hb); (try clear hb2); (try clear hk); (try clear hi); (try clear ho0)) | (go_at_call 17; (with_reducible refine (impl_StepsOf.calls k _ _ t370 t398 t399 _ ?side1 ?side2 A16.out).mono ?_); (case side1 => repeat (first | exact (Kd.R_reads' HO373.out).2.2 | (with_reducible refine Kd.C_alloc ?_ _) | (with_reducible refine Kd.C_drewN ?_ _) | (with_reducible refine Kd.C_drew ?_))); (case side2 => exact (Kd.R_reads' HO373.out).2.1); rintro e w33 ⟨v400, rfl, ho0, hb⟩; have n0_ := Aside0.mk (Kd.R_below (by (with_reducible repeat (first | apply Kd.R_alloc | apply Kd.R_drewN | apply Kd.R_drew)); exact HO373.out) hb); have n1_ := Aside0.mk (Kd.R_elder' (by (with_reducible repeat (first | apply Kd.R_alloc | apply Kd.R_drewN | apply Kd.R_drew)); exact HO393.out) (Kd.R_base ho0) hb); have n2_ := Aside0.mk (Kd.R_elder' (by (with_reducible repeat (first | apply Kd.R_alloc | apply Kd.R_drewN | apply Kd.R_drew)); exact HO397.out) (Kd.R_base ho0) hb); have n3_ := Aside0.mk (Kd.R_lower (Kd.R_new' (Kd.R_new' ho0 (Kd.R_lt (by (with_reducible repeat (first | apply Kd.R_alloc | apply Kd.R_drewN | apply Kd.R_drew)); exact HO393.out))) (Kd.R_lt (by (with_reducible repeat (first | apply Kd.R_alloc | apply Kd.R_drewN | apply Kd.R_drew)); exact HO397.out))) (below_size (by repeat (first | (with_reducible first | exact HB.out | apply below_alloc | apply pw_below_drewN | apply below_drew1) | exact HB.out)))); have n4_ := Aside0.mk (below_step (by repeat (first | (with_reducible first | exact HB.out | apply below_alloc | apply pw_below_drewN | apply below_drew1) | exact HB.out)) hb); clear HO373; clear HO393; clear HO397; clear HB; have HO373 := n0_; have HO393 := n1_; have HO397 := n2_; have HO401 := n3_; have HB := n4_; clear n0_ n1_ n2_ n3_ n4_; (try clear hb); (try clear hb2); (try clear hk); (try clear hi); (try clear ho0)) | (go_at_call 18; (with_reducible refine (spec_StepsOf.calls k _ _ t370 t402 t403 _ ?side1 ?side2 A17.out).mono ?_); (case side1 => repeat (first | exact (Kd.R_reads' HO373.out).2.2 | (with_reducible refine Kd.C_alloc ?_ _) | (with_reducible refine Kd.C_drewN ?_ _) | (with_reducible refine Kd.C_drew ?_))); (case side2 => exact (Kd.R_reads' HO373.out).2.1); rintro e w34 ⟨v404, rfl, ho0, hb⟩; have n0_ := Aside0.mk (Kd.R_below (by (with_reducible repeat (first | apply Kd.R_alloc | apply Kd.R_drewN | apply Kd.R_drew)); exact HO373.out) hb); have n1_ := Aside0.mk (Kd.R_elder' (by (with_reducible repeat (first | apply Kd.R_alloc | apply Kd.R_drewN | apply Kd.R_drew)); exact HO393.out) (Kd.R_base ho0) hb); have n2_ := Aside0.mk (Kd.R_elder' (by (with_reducible repeat (first | apply Kd.R_alloc | apply Kd.R_drewN | apply Kd.R_drew)); exact HO397.out) (Kd.R_base ho0) hb); have n3_ := Aside0.mk (Kd.R_elder' (by (with_reducible repeat (first | apply Kd.R_alloc | apply Kd.R_drewN | apply Kd.R_drew)); exact HO401.out) (Kd.R_base ho0) hb); have n4_ := Aside0.mk (Kd.R_lower (Kd.R_new' (Kd.R_new' (Kd.R_new' ho0 (Kd.R_lt (by (with_reducible repeat (first | apply Kd.R_alloc | apply Kd.R_drewN | apply Kd.R_drew)); exact HO393.out))) (Kd.R_lt (by (with_reducible repeat (first | apply Kd.R_alloc | apply Kd.R_drewN | apply Kd.R_drew)); exact HO397.out))) (Kd.R_lt (by (with_reducible repeat (first | apply Kd.R_alloc | apply Kd.R_drewN | apply Kd.R_drew)); exact HO401.out))) (below_size (by repeat (first | (with_reducible first | exact HB.out | apply below_alloc | apply pw_below_drewN | apply below_drew1) | exact HB.out)))); have n5_ := Aside0.mk (below_step (by repeat (first | (with_reducible first | exact HB.out | apply below_alloc | apply pw_below_drewN | apply below_drew1) | exact HB.out)) hb); clear HO373; clear HO393; clear HO397; clear HO401; clear HB; have HO373 := n0_; have HO393 := n1_; have HO397 := n2_; have HO401 := n3_; have HO405 := n4_; have HB := n5_; clear n0_ n1_ n2_ n3_ n4_ n5_; (try clear hb); (try clear hb2); (try clear hk); (try clear hi); (try clear ho0)) | (go_at_call 19; (with_reducible refine (impl_CountSpokes.calls k _ _ t370 t406 t407 _ ?side1 ?side2 A18.out).mono ?_); (case side1 => repeat (first | exact (Kd.R_reads' HO373.out).2.2 | (with_reducible refine Kd.C_alloc ?_ _) | (with_reducible refine Kd.C_drewN ?_ _) | (with_reducible refine Kd.C_drew ?_))); (case side2 => exact (Kd.R_reads' HO373.out).2.1); rintro e w35 ⟨rfl, hb⟩; have n0_ := Aside0.mk (Kd.R_below (by (with_reducible repeat (first | apply Kd.R_alloc | apply Kd.R_drewN | apply Kd.R_drew)); exact HO373.out) hb); have n1_ := Aside0.mk (Kd.R_below (by (with_reducible repeat (first | apply Kd.R_alloc | apply Kd.R_drewN | apply Kd.R_drew)); exact HO393.out) hb); have n2_ := Aside0.mk (Kd.R_below (by (with_reducible repeat (first | apply Kd.R_alloc | apply Kd.R_drewN | apply Kd.R_drew)); exact HO397.out) hb); have n3_ := Aside0.mk (Kd.R_below (by (with_reducible repeat (first | apply Kd.R_alloc | apply Kd.R_drewN | apply Kd.R_drew)); exact HO401.out) hb); have n4_ := Aside0.mk (Kd.R_below (by (with_reducible repeat (first | apply Kd.R_alloc | apply Kd.R_drewN | apply Kd.R_drew)); exact HO405.out) hb); have n5_ := Aside0.mk (below_step (by repeat (first | (with_reducible first | exact HB.out | apply below_alloc | apply pw_below_drewN | apply below_drew1) | exact HB.out)) hb); clear HO373; clear HO393; clear HO397; clear HO401; clear HO405; clear HB; have HO373 := n0_; have HO393 := n1_; have HO397 := n2_; have HO401 := n3_; have HO405 := n4_; have HB := n5_; clear n0_ n1_ n2_ n3_ n4_ n5_; (try clear hb); (try clear hb2); (try clear hk); (try clear hi)) | (go_at_call 20; (with_reducible refine (spec_CountSpokes.calls k _ _ t370 t408 t409 _ ?side1 ?side2 A19.out).mono ?_); (case side1 => repeat (first | exact (Kd.R_reads' HO373.out).2.2 | (with_reducible refine Kd.C_alloc ?_ _) | (with_reducible refine Kd.C_drewN ?_ _) | (with_reducible refine Kd.C_drew ?_))); (case side2 => exact (Kd.R_reads' HO373.out).2.1); rintro e w36 ⟨rfl, hb⟩; have n0_ := Aside0.mk (Kd.R_below (by (with_reducible repeat (first | apply Kd.R_alloc | apply Kd.R_drewN | apply Kd.R_drew)); exact HO373.out) hb); have n1_ := Aside0.mk (Kd.R_below (by (with_reducible repeat (first | apply Kd.R_alloc | apply Kd.R_drewN | apply Kd.R_drew)); exact HO393.out) hb); have n2_ := Aside0.mk (Kd.R_below (by (with_reducible repeat (first | apply Kd.R_alloc | apply Kd.R_drewN | apply Kd.R_drew)); exact HO397.out) hb); have n3_ := Aside0.mk (Kd.R_below (by (with_reducible repeat (first | apply Kd.R_alloc | apply Kd.R_drewN | apply Kd.R_drew)); exact HO401.out) hb); have n4_ := Aside0.mk (Kd.R_below (by (with_reducible repeat (first | apply Kd.R_alloc | apply Kd.R_drewN | apply Kd.R_drew)); exact HO405.out) hb); have n5_ := Aside0.mk (below_step (by repeat (first | (with_reducible first | exact HB.out | apply below_alloc | apply pw_below_drewN | apply below_drew1) | exact HB.out)) hb); clear HO373; clear HO393; clear HO397; clear HO401; clear HO405; clear HB; have HO373 := n0_; have HO393 := n1_; have HO397 := n2_; have HO401 := n3_; have HO405 := n4_; have HB := n5_; clear n0_ n1_ n2_ n3_ n4_ n5_; (try clear hb); (try clear hb2); (try clear hk); (try clear hi))))
  (try simp only [Act.put, List.setIfInBounds_toArray, List.set_cons_zero, List.set_cons_succ])
  go_cut [241] from 9999 to 9999 (fun v241 wc => ∃ (kq : Nat) (x241_19 : Bool), v241 = .bool x241_19 ∧ Aside0 (laws_FnWheelsTurn.j0 kq t370 t371 t374 t375 t378 t379 t382 t386 t387 t390 t391 t398 t406 x241_19 = some r) ∧ Aside0 (kq ≤ k) ∧ Aside0 (Kd.R k45 45 wc w.heap.size (fun _ => True) (.slice Ao22 t370.length co22) t370) ∧ Aside0 (Kd.R (Kd.int .i64) 3 wc w.heap.size (fun k_ => some k_ ≠ (v400 : Value).ownBlock) v392 t390) ∧ Aside0 (Kd.R (Kd.int .i64) 3 wc w.heap.size (fun k_ => some k_ ≠ (v392 : Value).ownBlock) v400 t398) ∧ Aside0 (Below w.heap.size w wc))
  case first =>
   as_aux_lemma =>
   have H := HC20.out
   clear HC20
   have c37 : ¬ ((t375 != t377) = true) := fun c37 => by
    rw [if_pos c37] at H
    exact absurd H (by simp)
   rw [if_neg c37] at H
   have c37b0 : (t375 != t377) = false := by simpa using c37
   (try (have c37b1 : decide (t375 = t377) = true := by simpa using c37))
   (try (have c37b2 : (t375 == t377) = true := by simpa using c37))
   clear c37
   (first | rw [c37b0] | (simp only [i64_w, i32_w]; rw [c37b0]) | skip)
   have c38 : t374 = t376 := Classical.byContradiction fun c38 => by
    rw [if_neg c38] at H
    exact absurd H (by simp)
   rw [if_pos c38] at H
   have c38b0 : (t374 == t376) = true := beq_iff_eq.mpr c38
   have c38b1 : (t374 != t376) = false := bne_eq_false_iff_eq.mpr c38
   clear c38
   have c39 : ¬ ((t379 != t381) = true) := fun c39 => by
    rw [if_pos c39] at H
    exact absurd H (by simp)
   rw [if_neg c39] at H
   have c39b0 : (t379 != t381) = false := by simpa using c39
   (try (have c39b1 : decide (t379 = t381) = true := by simpa using c39))
   (try (have c39b2 : (t379 == t381) = true := by simpa using c39))
   clear c39
   have c40 : t378 = t380 := Classical.byContradiction fun c40 => by
    rw [if_neg c40] at H
    exact absurd H (by simp)
   rw [if_pos c40] at H
   have c40b0 : (t378 == t380) = true := beq_iff_eq.mpr c40
   have c40b1 : (t378 != t380) = false := bne_eq_false_iff_eq.mpr c40
   clear c40
   have c41 : ¬ ((t383 != t385) = true) := fun c41 => by
    rw [if_pos c41] at H
    exact absurd H (by simp)
   rw [if_neg c41] at H
   have c41b0 : (t383 != t385) = false := by simpa using c41
   (try (have c41b1 : decide (t383 = t385) = true := by simpa using c41))
   (try (have c41b2 : (t383 == t385) = true := by simpa using c41))
   clear c41
   have c42 : ¬ ((t382 != t384) = true) := fun c42 => by
    rw [if_pos c42] at H
    exact absurd H (by simp)
   rw [if_neg c42] at H
   have c42b0 : (t382 != t384) = false := by simpa using c42
   (try (have c42b1 : decide (t382 = t384) = true := by simpa using c42))
   (try (have c42b2 : (t382 == t384) = true := by simpa using c42))
   clear c42
   have c43 : ¬ ((t387 != t389) = true) := fun c43 => by
    rw [if_pos c43] at H
    exact absurd H (by simp)
   rw [if_neg c43] at H
   have c43b0 : (t387 != t389) = false := by simpa using c43
   (try (have c43b1 : decide (t387 = t389) = true := by simpa using c43))
   (try (have c43b2 : (t387 == t389) = true := by simpa using c43))
   clear c43
   have c44 : t386 = t388 := Classical.byContradiction fun c44 => by
    rw [if_neg c44] at H
    exact absurd H (by simp)
   rw [if_pos c44] at H
   have c44b0 : (t386 == t388) = true := beq_iff_eq.mpr c44
   have c44b1 : (t386 != t388) = false := bne_eq_false_iff_eq.mpr c44
   clear c44
   have c45 : ¬ ((t391 != t395) = true) := fun c45 => by
    rw [if_pos c45] at H
    exact absurd H (by simp)
   rw [if_neg c45] at H
   have c45b0 : (t391 != t395) = false := by simpa using c45
   (try (have c45b1 : decide (t391 = t395) = true := by simpa using c45))
   (try (have c45b2 : (t391 == t395) = true := by simpa using c45))
   clear c45
   replace H := Option.bind_eq_some_iff.mp H
   obtain ⟨t410, A460, H⟩ := H
   replace H : (if t410 = true then (if (t399 != t403) = true then (none) else ((laws_gSame.f k t398 t402).bind fun t411 => (if t411 = true then (if (t407 != t409) = true then (none) else (if t406 = t408 then (if (t399 != t391) = true then (none) else (if (t407 != t391) = true then (none) else (if t383 = true then (if t382 = true then (if (t379 != (decide (t371 > 0))) = true then (none) else (if t391 = true then (laws_FnWheelsTurn.j0 k t370 t371 t374 t375 t378 t379 t382 t386 t387 t390 t391 t398 t406 (t387 != t383)) else (none))) else (if (t379 != false) = true then (none) else (if t391 = true then (laws_FnWheelsTurn.j0 k t370 t371 t374 t375 t378 t379 t382 t386 t387 t390 t391 t398 t406 (t387 != t383)) else (none)))) else (if (t379 != false) = true then (none) else (laws_FnWheelsTurn.j0 k t370 t371 t374 t375 t378 t379 t382 t386 t387 t390 t391 t398 t406 (t387 != t383)))))) else (none))) else (none)))) else (none)) = some r := H
   have A46 := Aside0.mk A460
   clear A460
   have c47 : t410 = true := Classical.byContradiction fun c47 => by
    replace c47 := Bool.eq_false_iff.mpr c47
    subst c47
    have H1 : (none) = some r := by rw [if_neg (show ¬ (false = true) by decide)] at H; exact H
    clear H
    have H := H1
    clear H1
    exact absurd H (by simp)
   subst c47
   have H1 : (if (t399 != t403) = true then (none) else ((laws_gSame.f k t398 t402).bind fun t411 => (if t411 = true then (if (t407 != t409) = true then (none) else (if t406 = t408 then (if (t399 != t391) = true then (none) else (if (t407 != t391) = true then (none) else (if t383 = true then (if t382 = true then (if (t379 != (decide (t371 > 0))) = true then (none) else (if t391 = true then (laws_FnWheelsTurn.j0 k t370 t371 t374 t375 t378 t379 t382 t386 t387 t390 t391 t398 t406 (t387 != t383)) else (none))) else (if (t379 != false) = true then (none) else (if t391 = true then (laws_FnWheelsTurn.j0 k t370 t371 t374 t375 t378 t379 t382 t386 t387 t390 t391 t398 t406 (t387 != t383)) else (none)))) else (if (t379 != false) = true then (none) else (laws_FnWheelsTurn.j0 k t370 t371 t374 t375 t378 t379 t382 t386 t387 t390 t391 t398 t406 (t387 != t383)))))) else (none))) else (none)))) = some r := by rw [if_pos rfl] at H; exact H
   clear H
   have H := H1
   clear H1
   have c48 : ¬ ((t399 != t403) = true) := fun c48 => by
    rw [if_pos c48] at H
    exact absurd H (by simp)
   rw [if_neg c48] at H
   have c48b0 : (t399 != t403) = false := by simpa using c48
   (try (have c48b1 : decide (t399 = t403) = true := by simpa using c48))
   (try (have c48b2 : (t399 == t403) = true := by simpa using c48))
   clear c48
   replace H := Option.bind_eq_some_iff.mp H
   obtain ⟨t411, A490, H⟩ := H
   replace H : (if t411 = true then (if (t407 != t409) = true then (none) else (if t406 = t408 then (if (t399 != t391) = true then (none) else (if (t407 != t391) = true then (none) else (if t383 = true then (if t382 = true then (if (t379 != (decide (t371 > 0))) = true then (none) else (if t391 = true then (laws_FnWheelsTurn.j0 k t370 t371 t374 t375 t378 t379 t382 t386 t387 t390 t391 t398 t406 (t387 != t383)) else (none))) else (if (t379 != false) = true then (none) else (if t391 = true then (laws_FnWheelsTurn.j0 k t370 t371 t374 t375 t378 t379 t382 t386 t387 t390 t391 t398 t406 (t387 != t383)) else (none)))) else (if (t379 != false) = true then (none) else (laws_FnWheelsTurn.j0 k t370 t371 t374 t375 t378 t379 t382 t386 t387 t390 t391 t398 t406 (t387 != t383)))))) else (none))) else (none)) = some r := H
   have A49 := Aside0.mk A490
   clear A490
   have c50 : t411 = true := Classical.byContradiction fun c50 => by
    replace c50 := Bool.eq_false_iff.mpr c50
    subst c50
    have H1 : (none) = some r := by rw [if_neg (show ¬ (false = true) by decide)] at H; exact H
    clear H
    have H := H1
    clear H1
    exact absurd H (by simp)
   subst c50
   have H1 : (if (t407 != t409) = true then (none) else (if t406 = t408 then (if (t399 != t391) = true then (none) else (if (t407 != t391) = true then (none) else (if t383 = true then (if t382 = true then (if (t379 != (decide (t371 > 0))) = true then (none) else (if t391 = true then (laws_FnWheelsTurn.j0 k t370 t371 t374 t375 t378 t379 t382 t386 t387 t390 t391 t398 t406 (t387 != t383)) else (none))) else (if (t379 != false) = true then (none) else (if t391 = true then (laws_FnWheelsTurn.j0 k t370 t371 t374 t375 t378 t379 t382 t386 t387 t390 t391 t398 t406 (t387 != t383)) else (none)))) else (if (t379 != false) = true then (none) else (laws_FnWheelsTurn.j0 k t370 t371 t374 t375 t378 t379 t382 t386 t387 t390 t391 t398 t406 (t387 != t383)))))) else (none))) = some r := by rw [if_pos rfl] at H; exact H
   clear H
   have H := H1
   clear H1
   have c51 : ¬ ((t407 != t409) = true) := fun c51 => by
    rw [if_pos c51] at H
    exact absurd H (by simp)
   rw [if_neg c51] at H
   have c51b0 : (t407 != t409) = false := by simpa using c51
   (try (have c51b1 : decide (t407 = t409) = true := by simpa using c51))
   (try (have c51b2 : (t407 == t409) = true := by simpa using c51))
   clear c51
   have c52 : t406 = t408 := Classical.byContradiction fun c52 => by
    rw [if_neg c52] at H
    exact absurd H (by simp)
   rw [if_pos c52] at H
   have c52b0 : (t406 == t408) = true := beq_iff_eq.mpr c52
   have c52b1 : (t406 != t408) = false := bne_eq_false_iff_eq.mpr c52
   clear c52
   have c53 : ¬ ((t399 != t391) = true) := fun c53 => by
    rw [if_pos c53] at H
    exact absurd H (by simp)
   rw [if_neg c53] at H
   have c53b0 : (t399 != t391) = false := by simpa using c53
   (try (have c53b1 : decide (t399 = t391) = true := by simpa using c53))
   (try (have c53b2 : (t399 == t391) = true := by simpa using c53))
   clear c53
   have c54 : ¬ ((t407 != t391) = true) := fun c54 => by
    rw [if_pos c54] at H
    exact absurd H (by simp)
   rw [if_neg c54] at H
   have c54b0 : (t407 != t391) = false := by simpa using c54
   (try (have c54b1 : decide (t407 = t391) = true := by simpa using c54))
   (try (have c54b2 : (t407 == t391) = true := by simpa using c54))
   clear c54
   by_cases c55 : t383 = true
   ·subst c55
    have H1 : (if t382 = true then (if (t379 != (decide (t371 > 0))) = true then (none) else (if t391 = true then (laws_FnWheelsTurn.j0 k t370 t371 t374 t375 t378 t379 t382 t386 t387 t390 t391 t398 t406 (t387 != true)) else (none))) else (if (t379 != false) = true then (none) else (if t391 = true then (laws_FnWheelsTurn.j0 k t370 t371 t374 t375 t378 t379 t382 t386 t387 t390 t391 t398 t406 (t387 != true)) else (none)))) = some r := by rw [if_pos rfl] at H; exact H
    clear H
    have H := H1
    clear H1
    by_cases c56 : t382 = true
    ·subst c56
     have H1 : (if (t379 != (decide (t371 > 0))) = true then (none) else (if t391 = true then (laws_FnWheelsTurn.j0 k t370 t371 t374 t375 t378 t379 true t386 t387 t390 t391 t398 t406 (t387 != true)) else (none))) = some r := by rw [if_pos rfl] at H; exact H
     clear H
     have H := H1
     clear H1
     have c57 : ¬ ((t379 != (decide (t371 > 0))) = true) := fun c57 => by
      rw [if_pos c57] at H
      exact absurd H (by simp)
     rw [if_neg c57] at H
     have c57b0 : (t379 != (decide (t371 > 0))) = false := by simpa using c57
     (try (have c57b1 : decide (t379 = (decide (t371 > 0))) = true := by simpa using c57))
     (try (have c57b2 : (t379 == (decide (t371 > 0))) = true := by simpa using c57))
     clear c57
     have c58 : t391 = true := Classical.byContradiction fun c58 => by
      replace c58 := Bool.eq_false_iff.mpr c58
      subst c58
      have H1 : (none) = some r := by rw [if_neg (show ¬ (false = true) by decide)] at H; exact H
      clear H
      have H := H1
      clear H1
      exact absurd H (by simp)
     subst c58
     have H1 : (laws_FnWheelsTurn.j0 k t370 t371 t374 t375 t378 t379 true t386 t387 t390 true t398 t406 (t387 != true)) = some r := by rw [if_pos rfl] at H; exact H
     clear H
     have H := H1
     clear H1
     have H' := Aside0.mk H
     clear H
     obtain ⟨Ao59, co59, eo59⟩ := Kd.R_slice HO393.out
     subst eo59
     obtain ⟨Ao60, co60, eo60⟩ := Kd.R_slice HO397.out
     subst eo60
     as_aux_lemma =>
     go_wp2_with (first | (go_at_call 21; (with_reducible refine (laws_gSame.calls k _ _ t390 _ _ t394 true _ ?side1 ?side2 ?side3 ?side4 A46.out).mono ?_); (case side1 => repeat (first | exact (Kd.R_reads' HO393.out).2.2 | (with_reducible refine Kd.C_alloc ?_ _) | (with_reducible refine Kd.C_drewN ?_ _) | (with_reducible refine Kd.C_drew ?_))); (case side2 => exact (Kd.R_reads' HO393.out).2.1); (case side3 => repeat (first | exact (Kd.R_reads' HO397.out).2.2 | (with_reducible refine Kd.C_alloc ?_ _) | (with_reducible refine Kd.C_drewN ?_ _) | (with_reducible refine Kd.C_drew ?_))); (case side4 => exact (Kd.R_reads' HO397.out).2.1); rintro e w' ⟨rfl, ⟨nd, rfl⟩⟩; (try first | exact ⟨rfl, _, World.drewN_drewN _ _ _⟩ | exact ⟨rfl, _, Eq.trans (World.drewN_drewN _ _ _) (congrArg (World.drewN _) (Nat.add_assoc _ _ _))⟩); obtain ⟨Ao61, co61, eo61⟩ := Kd.R_slice HO401.out; subst eo61; obtain ⟨Ao62, co62, eo62⟩ := Kd.R_slice HO405.out; subst eo62))
     as_aux_lemma =>
     go_wp2_with (first | (go_at_call 21; (with_reducible refine (laws_gSame.calls k _ _ t398 _ _ t402 true _ ?side1 ?side2 ?side3 ?side4 A49.out).mono ?_); (case side1 => repeat (first | exact (Kd.R_reads' HO401.out).2.2 | (with_reducible refine Kd.C_alloc ?_ _) | (with_reducible refine Kd.C_drewN ?_ _) | (with_reducible refine Kd.C_drew ?_))); (case side2 => exact (Kd.R_reads' HO401.out).2.1); (case side3 => repeat (first | exact (Kd.R_reads' HO405.out).2.2 | (with_reducible refine Kd.C_alloc ?_ _) | (with_reducible refine Kd.C_drewN ?_ _) | (with_reducible refine Kd.C_drew ?_))); (case side4 => exact (Kd.R_reads' HO405.out).2.1); rintro e w' ⟨rfl, ⟨nd, rfl⟩⟩; (try first | exact ⟨rfl, _, World.drewN_drewN _ _ _⟩ | exact ⟨rfl, _, Eq.trans (World.drewN_drewN _ _ _) (congrArg (World.drewN _) (Nat.add_assoc _ _ _))⟩)))
     repeat (go_quiet (first | (go_at_call 21; (with_reducible refine (laws_gSame.calls k _ _ t390 _ _ t394 true _ ?side1 ?side2 ?side3 ?side4 A46.out).mono ?_); (case side1 => repeat (first | exact (Kd.R_reads' HO393.out).2.2 | (with_reducible refine Kd.C_alloc ?_ _) | (with_reducible refine Kd.C_drewN ?_ _) | (with_reducible refine Kd.C_drew ?_))); (case side2 => exact (Kd.R_reads' HO393.out).2.1); (case side3 => repeat (first | exact (Kd.R_reads' HO397.out).2.2 | (with_reducible refine Kd.C_alloc ?_ _) | (with_reducible refine Kd.C_drewN ?_ _) | (with_reducible refine Kd.C_drew ?_))); (case side4 => exact (Kd.R_reads' HO397.out).2.1); rintro e w' ⟨rfl, ⟨nd, rfl⟩⟩; (try first | exact ⟨rfl, _, World.drewN_drewN _ _ _⟩ | exact ⟨rfl, _, Eq.trans (World.drewN_drewN _ _ _) (congrArg (World.drewN _) (Nat.add_assoc _ _ _))⟩); obtain ⟨Ao61, co61, eo61⟩ := Kd.R_slice HO401.out; subst eo61; obtain ⟨Ao62, co62, eo62⟩ := Kd.R_slice HO405.out; subst eo62) | (go_at_call 21; (with_reducible refine (laws_gSame.calls k _ _ t398 _ _ t402 true _ ?side1 ?side2 ?side3 ?side4 A49.out).mono ?_); (case side1 => repeat (first | exact (Kd.R_reads' HO401.out).2.2 | (with_reducible refine Kd.C_alloc ?_ _) | (with_reducible refine Kd.C_drewN ?_ _) | (with_reducible refine Kd.C_drew ?_))); (case side2 => exact (Kd.R_reads' HO401.out).2.1); (case side3 => repeat (first | exact (Kd.R_reads' HO405.out).2.2 | (with_reducible refine Kd.C_alloc ?_ _) | (with_reducible refine Kd.C_drewN ?_ _) | (with_reducible refine Kd.C_drew ?_))); (case side4 => exact (Kd.R_reads' HO405.out).2.1); rintro e w' ⟨rfl, ⟨nd, rfl⟩⟩; (try first | exact ⟨rfl, _, World.drewN_drewN _ _ _⟩ | exact ⟨rfl, _, Eq.trans (World.drewN_drewN _ _ _) (congrArg (World.drewN _) (Nat.add_assoc _ _ _))⟩))); try go_wp2_with (first | (go_at_call 21; (with_reducible refine (laws_gSame.calls k _ _ t390 _ _ t394 true _ ?side1 ?side2 ?side3 ?side4 A46.out).mono ?_); (case side1 => repeat (first | exact (Kd.R_reads' HO393.out).2.2 | (with_reducible refine Kd.C_alloc ?_ _) | (with_reducible refine Kd.C_drewN ?_ _) | (with_reducible refine Kd.C_drew ?_))); (case side2 => exact (Kd.R_reads' HO393.out).2.1); (case side3 => repeat (first | exact (Kd.R_reads' HO397.out).2.2 | (with_reducible refine Kd.C_alloc ?_ _) | (with_reducible refine Kd.C_drewN ?_ _) | (with_reducible refine Kd.C_drew ?_))); (case side4 => exact (Kd.R_reads' HO397.out).2.1); rintro e w' ⟨rfl, ⟨nd, rfl⟩⟩; (try first | exact ⟨rfl, _, World.drewN_drewN _ _ _⟩ | exact ⟨rfl, _, Eq.trans (World.drewN_drewN _ _ _) (congrArg (World.drewN _) (Nat.add_assoc _ _ _))⟩); obtain ⟨Ao61, co61, eo61⟩ := Kd.R_slice HO401.out; subst eo61; obtain ⟨Ao62, co62, eo62⟩ := Kd.R_slice HO405.out; subst eo62) | (go_at_call 21; (with_reducible refine (laws_gSame.calls k _ _ t398 _ _ t402 true _ ?side1 ?side2 ?side3 ?side4 A49.out).mono ?_); (case side1 => repeat (first | exact (Kd.R_reads' HO401.out).2.2 | (with_reducible refine Kd.C_alloc ?_ _) | (with_reducible refine Kd.C_drewN ?_ _) | (with_reducible refine Kd.C_drew ?_))); (case side2 => exact (Kd.R_reads' HO401.out).2.1); (case side3 => repeat (first | exact (Kd.R_reads' HO405.out).2.2 | (with_reducible refine Kd.C_alloc ?_ _) | (with_reducible refine Kd.C_drewN ?_ _) | (with_reducible refine Kd.C_drew ?_))); (case side4 => exact (Kd.R_reads' HO405.out).2.1); rintro e w' ⟨rfl, ⟨nd, rfl⟩⟩; (try first | exact ⟨rfl, _, World.drewN_drewN _ _ _⟩ | exact ⟨rfl, _, Eq.trans (World.drewN_drewN _ _ _) (congrArg (World.drewN _) (Nat.add_assoc _ _ _))⟩))))
     as_aux_lemma =>
     go_meet
     case rel => exact ⟨_, ((t387 != true)), (by first | rfl | (simp; done) | (simp [*]; done)), H', ⟨by first | omega | exact Nat.le_refl _⟩, ⟨by (with_reducible repeat (first | apply Kd.R_alloc | apply Kd.R_drewN | apply Kd.R_drew)); exact HO373.out⟩, ⟨by (with_reducible repeat (first | apply Kd.R_alloc | apply Kd.R_drewN | apply Kd.R_drew)); exact Kd.R_mono HO393.out (fun _ hk => hk.1.2)⟩, ⟨by (with_reducible repeat (first | apply Kd.R_alloc | apply Kd.R_drewN | apply Kd.R_drew)); exact Kd.R_mono HO401.out (fun _ hk => hk.1.1.2)⟩, ⟨by repeat (first | (with_reducible first | exact HB.out | apply below_alloc | apply pw_below_drewN | apply below_drew1) | exact HB.out)⟩⟩
    ·replace c56 := Bool.eq_false_iff.mpr c56
     subst c56
     have H1 : (if (t379 != false) = true then (none) else (if t391 = true then (laws_FnWheelsTurn.j0 k t370 t371 t374 t375 t378 t379 false t386 t387 t390 t391 t398 t406 (t387 != true)) else (none))) = some r := by rw [if_neg (show ¬ (false = true) by decide)] at H; exact H
     clear H
     have H := H1
     clear H1
     have c63 : ¬ ((t379 != false) = true) := fun c63 => by
      rw [if_pos c63] at H
      exact absurd H (by simp)
     rw [if_neg c63] at H
     have hT_ : t379 = false := by simpa using c63
     clear c63
     subst hT_
     have c64 : t391 = true := Classical.byContradiction fun c64 => by
      replace c64 := Bool.eq_false_iff.mpr c64
      subst c64
      have H1 : (none) = some r := by rw [if_neg (show ¬ (false = true) by decide)] at H; exact H
      clear H
      have H := H1
      clear H1
      exact absurd H (by simp)
     subst c64
     have H1 : (laws_FnWheelsTurn.j0 k t370 t371 t374 t375 t378 false false t386 t387 t390 true t398 t406 (t387 != true)) = some r := by rw [if_pos rfl] at H; exact H
     clear H
     have H := H1
     clear H1
     have H' := Aside0.mk H
     clear H
     obtain ⟨Ao65, co65, eo65⟩ := Kd.R_slice HO393.out
     subst eo65
     obtain ⟨Ao66, co66, eo66⟩ := Kd.R_slice HO397.out
     subst eo66
     as_aux_lemma =>
     go_wp2_with (first | (go_at_call 21; (with_reducible refine (laws_gSame.calls k _ _ t390 _ _ t394 true _ ?side1 ?side2 ?side3 ?side4 A46.out).mono ?_); (case side1 => repeat (first | exact (Kd.R_reads' HO393.out).2.2 | (with_reducible refine Kd.C_alloc ?_ _) | (with_reducible refine Kd.C_drewN ?_ _) | (with_reducible refine Kd.C_drew ?_))); (case side2 => exact (Kd.R_reads' HO393.out).2.1); (case side3 => repeat (first | exact (Kd.R_reads' HO397.out).2.2 | (with_reducible refine Kd.C_alloc ?_ _) | (with_reducible refine Kd.C_drewN ?_ _) | (with_reducible refine Kd.C_drew ?_))); (case side4 => exact (Kd.R_reads' HO397.out).2.1); rintro e w' ⟨rfl, ⟨nd, rfl⟩⟩; (try first | exact ⟨rfl, _, World.drewN_drewN _ _ _⟩ | exact ⟨rfl, _, Eq.trans (World.drewN_drewN _ _ _) (congrArg (World.drewN _) (Nat.add_assoc _ _ _))⟩); obtain ⟨Ao67, co67, eo67⟩ := Kd.R_slice HO401.out; subst eo67; obtain ⟨Ao68, co68, eo68⟩ := Kd.R_slice HO405.out; subst eo68))
     as_aux_lemma =>
     go_wp2_with (first | (go_at_call 21; (with_reducible refine (laws_gSame.calls k _ _ t398 _ _ t402 true _ ?side1 ?side2 ?side3 ?side4 A49.out).mono ?_); (case side1 => repeat (first | exact (Kd.R_reads' HO401.out).2.2 | (with_reducible refine Kd.C_alloc ?_ _) | (with_reducible refine Kd.C_drewN ?_ _) | (with_reducible refine Kd.C_drew ?_))); (case side2 => exact (Kd.R_reads' HO401.out).2.1); (case side3 => repeat (first | exact (Kd.R_reads' HO405.out).2.2 | (with_reducible refine Kd.C_alloc ?_ _) | (with_reducible refine Kd.C_drewN ?_ _) | (with_reducible refine Kd.C_drew ?_))); (case side4 => exact (Kd.R_reads' HO405.out).2.1); rintro e w' ⟨rfl, ⟨nd, rfl⟩⟩; (try first | exact ⟨rfl, _, World.drewN_drewN _ _ _⟩ | exact ⟨rfl, _, Eq.trans (World.drewN_drewN _ _ _) (congrArg (World.drewN _) (Nat.add_assoc _ _ _))⟩)))
     repeat (go_quiet (first | (go_at_call 21; (with_reducible refine (laws_gSame.calls k _ _ t390 _ _ t394 true _ ?side1 ?side2 ?side3 ?side4 A46.out).mono ?_); (case side1 => repeat (first | exact (Kd.R_reads' HO393.out).2.2 | (with_reducible refine Kd.C_alloc ?_ _) | (with_reducible refine Kd.C_drewN ?_ _) | (with_reducible refine Kd.C_drew ?_))); (case side2 => exact (Kd.R_reads' HO393.out).2.1); (case side3 => repeat (first | exact (Kd.R_reads' HO397.out).2.2 | (with_reducible refine Kd.C_alloc ?_ _) | (with_reducible refine Kd.C_drewN ?_ _) | (with_reducible refine Kd.C_drew ?_))); (case side4 => exact (Kd.R_reads' HO397.out).2.1); rintro e w' ⟨rfl, ⟨nd, rfl⟩⟩; (try first | exact ⟨rfl, _, World.drewN_drewN _ _ _⟩ | exact ⟨rfl, _, Eq.trans (World.drewN_drewN _ _ _) (congrArg (World.drewN _) (Nat.add_assoc _ _ _))⟩); obtain ⟨Ao67, co67, eo67⟩ := Kd.R_slice HO401.out; subst eo67; obtain ⟨Ao68, co68, eo68⟩ := Kd.R_slice HO405.out; subst eo68) | (go_at_call 21; (with_reducible refine (laws_gSame.calls k _ _ t398 _ _ t402 true _ ?side1 ?side2 ?side3 ?side4 A49.out).mono ?_); (case side1 => repeat (first | exact (Kd.R_reads' HO401.out).2.2 | (with_reducible refine Kd.C_alloc ?_ _) | (with_reducible refine Kd.C_drewN ?_ _) | (with_reducible refine Kd.C_drew ?_))); (case side2 => exact (Kd.R_reads' HO401.out).2.1); (case side3 => repeat (first | exact (Kd.R_reads' HO405.out).2.2 | (with_reducible refine Kd.C_alloc ?_ _) | (with_reducible refine Kd.C_drewN ?_ _) | (with_reducible refine Kd.C_drew ?_))); (case side4 => exact (Kd.R_reads' HO405.out).2.1); rintro e w' ⟨rfl, ⟨nd, rfl⟩⟩; (try first | exact ⟨rfl, _, World.drewN_drewN _ _ _⟩ | exact ⟨rfl, _, Eq.trans (World.drewN_drewN _ _ _) (congrArg (World.drewN _) (Nat.add_assoc _ _ _))⟩))); try go_wp2_with (first | (go_at_call 21; (with_reducible refine (laws_gSame.calls k _ _ t390 _ _ t394 true _ ?side1 ?side2 ?side3 ?side4 A46.out).mono ?_); (case side1 => repeat (first | exact (Kd.R_reads' HO393.out).2.2 | (with_reducible refine Kd.C_alloc ?_ _) | (with_reducible refine Kd.C_drewN ?_ _) | (with_reducible refine Kd.C_drew ?_))); (case side2 => exact (Kd.R_reads' HO393.out).2.1); (case side3 => repeat (first | exact (Kd.R_reads' HO397.out).2.2 | (with_reducible refine Kd.C_alloc ?_ _) | (with_reducible refine Kd.C_drewN ?_ _) | (with_reducible refine Kd.C_drew ?_))); (case side4 => exact (Kd.R_reads' HO397.out).2.1); rintro e w' ⟨rfl, ⟨nd, rfl⟩⟩; (try first | exact ⟨rfl, _, World.drewN_drewN _ _ _⟩ | exact ⟨rfl, _, Eq.trans (World.drewN_drewN _ _ _) (congrArg (World.drewN _) (Nat.add_assoc _ _ _))⟩); obtain ⟨Ao67, co67, eo67⟩ := Kd.R_slice HO401.out; subst eo67; obtain ⟨Ao68, co68, eo68⟩ := Kd.R_slice HO405.out; subst eo68) | (go_at_call 21; (with_reducible refine (laws_gSame.calls k _ _ t398 _ _ t402 true _ ?side1 ?side2 ?side3 ?side4 A49.out).mono ?_); (case side1 => repeat (first | exact (Kd.R_reads' HO401.out).2.2 | (with_reducible refine Kd.C_alloc ?_ _) | (with_reducible refine Kd.C_drewN ?_ _) | (with_reducible refine Kd.C_drew ?_))); (case side2 => exact (Kd.R_reads' HO401.out).2.1); (case side3 => repeat (first | exact (Kd.R_reads' HO405.out).2.2 | (with_reducible refine Kd.C_alloc ?_ _) | (with_reducible refine Kd.C_drewN ?_ _) | (with_reducible refine Kd.C_drew ?_))); (case side4 => exact (Kd.R_reads' HO405.out).2.1); rintro e w' ⟨rfl, ⟨nd, rfl⟩⟩; (try first | exact ⟨rfl, _, World.drewN_drewN _ _ _⟩ | exact ⟨rfl, _, Eq.trans (World.drewN_drewN _ _ _) (congrArg (World.drewN _) (Nat.add_assoc _ _ _))⟩))))
     as_aux_lemma =>
     go_meet
     case rel => exact ⟨_, ((t387 != true)), (by first | rfl | (simp; done) | (simp [*]; done)), H', ⟨by first | omega | exact Nat.le_refl _⟩, ⟨by (with_reducible repeat (first | apply Kd.R_alloc | apply Kd.R_drewN | apply Kd.R_drew)); exact HO373.out⟩, ⟨by (with_reducible repeat (first | apply Kd.R_alloc | apply Kd.R_drewN | apply Kd.R_drew)); exact Kd.R_mono HO393.out (fun _ hk => hk.1.2)⟩, ⟨by (with_reducible repeat (first | apply Kd.R_alloc | apply Kd.R_drewN | apply Kd.R_drew)); exact Kd.R_mono HO401.out (fun _ hk => hk.1.1.2)⟩, ⟨by repeat (first | (with_reducible first | exact HB.out | apply below_alloc | apply pw_below_drewN | apply below_drew1) | exact HB.out)⟩⟩
   ·replace c55 := Bool.eq_false_iff.mpr c55
    subst c55
    have H1 : (if (t379 != false) = true then (none) else (laws_FnWheelsTurn.j0 k t370 t371 t374 t375 t378 t379 t382 t386 t387 t390 t391 t398 t406 (t387 != false))) = some r := by rw [if_neg (show ¬ (false = true) by decide)] at H; exact H
    clear H
    have H := H1
    clear H1
    have c69 : ¬ ((t379 != false) = true) := fun c69 => by
     rw [if_pos c69] at H
     exact absurd H (by simp)
    rw [if_neg c69] at H
    have hT_ : t379 = false := by simpa using c69
    clear c69
    subst hT_
    have H' := Aside0.mk H
    clear H
    obtain ⟨Ao70, co70, eo70⟩ := Kd.R_slice HO393.out
    subst eo70
    obtain ⟨Ao71, co71, eo71⟩ := Kd.R_slice HO397.out
    subst eo71
    as_aux_lemma =>
    go_wp2_with (first | (go_at_call 21; (with_reducible refine (laws_gSame.calls k _ _ t390 _ _ t394 true _ ?side1 ?side2 ?side3 ?side4 A46.out).mono ?_); (case side1 => repeat (first | exact (Kd.R_reads' HO393.out).2.2 | (with_reducible refine Kd.C_alloc ?_ _) | (with_reducible refine Kd.C_drewN ?_ _) | (with_reducible refine Kd.C_drew ?_))); (case side2 => exact (Kd.R_reads' HO393.out).2.1); (case side3 => repeat (first | exact (Kd.R_reads' HO397.out).2.2 | (with_reducible refine Kd.C_alloc ?_ _) | (with_reducible refine Kd.C_drewN ?_ _) | (with_reducible refine Kd.C_drew ?_))); (case side4 => exact (Kd.R_reads' HO397.out).2.1); rintro e w' ⟨rfl, ⟨nd, rfl⟩⟩; (try first | exact ⟨rfl, _, World.drewN_drewN _ _ _⟩ | exact ⟨rfl, _, Eq.trans (World.drewN_drewN _ _ _) (congrArg (World.drewN _) (Nat.add_assoc _ _ _))⟩); obtain ⟨Ao72, co72, eo72⟩ := Kd.R_slice HO401.out; subst eo72; obtain ⟨Ao73, co73, eo73⟩ := Kd.R_slice HO405.out; subst eo73))
    as_aux_lemma =>
    go_wp2_with (first | (go_at_call 21; (with_reducible refine (laws_gSame.calls k _ _ t398 _ _ t402 true _ ?side1 ?side2 ?side3 ?side4 A49.out).mono ?_); (case side1 => repeat (first | exact (Kd.R_reads' HO401.out).2.2 | (with_reducible refine Kd.C_alloc ?_ _) | (with_reducible refine Kd.C_drewN ?_ _) | (with_reducible refine Kd.C_drew ?_))); (case side2 => exact (Kd.R_reads' HO401.out).2.1); (case side3 => repeat (first | exact (Kd.R_reads' HO405.out).2.2 | (with_reducible refine Kd.C_alloc ?_ _) | (with_reducible refine Kd.C_drewN ?_ _) | (with_reducible refine Kd.C_drew ?_))); (case side4 => exact (Kd.R_reads' HO405.out).2.1); rintro e w' ⟨rfl, ⟨nd, rfl⟩⟩; (try first | exact ⟨rfl, _, World.drewN_drewN _ _ _⟩ | exact ⟨rfl, _, Eq.trans (World.drewN_drewN _ _ _) (congrArg (World.drewN _) (Nat.add_assoc _ _ _))⟩)))
    repeat (go_quiet (first | (go_at_call 21; (with_reducible refine (laws_gSame.calls k _ _ t390 _ _ t394 true _ ?side1 ?side2 ?side3 ?side4 A46.out).mono ?_); (case side1 => repeat (first | exact (Kd.R_reads' HO393.out).2.2 | (with_reducible refine Kd.C_alloc ?_ _) | (with_reducible refine Kd.C_drewN ?_ _) | (with_reducible refine Kd.C_drew ?_))); (case side2 => exact (Kd.R_reads' HO393.out).2.1); (case side3 => repeat (first | exact (Kd.R_reads' HO397.out).2.2 | (with_reducible refine Kd.C_alloc ?_ _) | (with_reducible refine Kd.C_drewN ?_ _) | (with_reducible refine Kd.C_drew ?_))); (case side4 => exact (Kd.R_reads' HO397.out).2.1); rintro e w' ⟨rfl, ⟨nd, rfl⟩⟩; (try first | exact ⟨rfl, _, World.drewN_drewN _ _ _⟩ | exact ⟨rfl, _, Eq.trans (World.drewN_drewN _ _ _) (congrArg (World.drewN _) (Nat.add_assoc _ _ _))⟩); obtain ⟨Ao72, co72, eo72⟩ := Kd.R_slice HO401.out; subst eo72; obtain ⟨Ao73, co73, eo73⟩ := Kd.R_slice HO405.out; subst eo73) | (go_at_call 21; (with_reducible refine (laws_gSame.calls k _ _ t398 _ _ t402 true _ ?side1 ?side2 ?side3 ?side4 A49.out).mono ?_); (case side1 => repeat (first | exact (Kd.R_reads' HO401.out).2.2 | (with_reducible refine Kd.C_alloc ?_ _) | (with_reducible refine Kd.C_drewN ?_ _) | (with_reducible refine Kd.C_drew ?_))); (case side2 => exact (Kd.R_reads' HO401.out).2.1); (case side3 => repeat (first | exact (Kd.R_reads' HO405.out).2.2 | (with_reducible refine Kd.C_alloc ?_ _) | (with_reducible refine Kd.C_drewN ?_ _) | (with_reducible refine Kd.C_drew ?_))); (case side4 => exact (Kd.R_reads' HO405.out).2.1); rintro e w' ⟨rfl, ⟨nd, rfl⟩⟩; (try first | exact ⟨rfl, _, World.drewN_drewN _ _ _⟩ | exact ⟨rfl, _, Eq.trans (World.drewN_drewN _ _ _) (congrArg (World.drewN _) (Nat.add_assoc _ _ _))⟩))); try go_wp2_with (first | (go_at_call 21; (with_reducible refine (laws_gSame.calls k _ _ t390 _ _ t394 true _ ?side1 ?side2 ?side3 ?side4 A46.out).mono ?_); (case side1 => repeat (first | exact (Kd.R_reads' HO393.out).2.2 | (with_reducible refine Kd.C_alloc ?_ _) | (with_reducible refine Kd.C_drewN ?_ _) | (with_reducible refine Kd.C_drew ?_))); (case side2 => exact (Kd.R_reads' HO393.out).2.1); (case side3 => repeat (first | exact (Kd.R_reads' HO397.out).2.2 | (with_reducible refine Kd.C_alloc ?_ _) | (with_reducible refine Kd.C_drewN ?_ _) | (with_reducible refine Kd.C_drew ?_))); (case side4 => exact (Kd.R_reads' HO397.out).2.1); rintro e w' ⟨rfl, ⟨nd, rfl⟩⟩; (try first | exact ⟨rfl, _, World.drewN_drewN _ _ _⟩ | exact ⟨rfl, _, Eq.trans (World.drewN_drewN _ _ _) (congrArg (World.drewN _) (Nat.add_assoc _ _ _))⟩); obtain ⟨Ao72, co72, eo72⟩ := Kd.R_slice HO401.out; subst eo72; obtain ⟨Ao73, co73, eo73⟩ := Kd.R_slice HO405.out; subst eo73) | (go_at_call 21; (with_reducible refine (laws_gSame.calls k _ _ t398 _ _ t402 true _ ?side1 ?side2 ?side3 ?side4 A49.out).mono ?_); (case side1 => repeat (first | exact (Kd.R_reads' HO401.out).2.2 | (with_reducible refine Kd.C_alloc ?_ _) | (with_reducible refine Kd.C_drewN ?_ _) | (with_reducible refine Kd.C_drew ?_))); (case side2 => exact (Kd.R_reads' HO401.out).2.1); (case side3 => repeat (first | exact (Kd.R_reads' HO405.out).2.2 | (with_reducible refine Kd.C_alloc ?_ _) | (with_reducible refine Kd.C_drewN ?_ _) | (with_reducible refine Kd.C_drew ?_))); (case side4 => exact (Kd.R_reads' HO405.out).2.1); rintro e w' ⟨rfl, ⟨nd, rfl⟩⟩; (try first | exact ⟨rfl, _, World.drewN_drewN _ _ _⟩ | exact ⟨rfl, _, Eq.trans (World.drewN_drewN _ _ _) (congrArg (World.drewN _) (Nat.add_assoc _ _ _))⟩))))
    as_aux_lemma =>
    go_meet
    case rel => exact ⟨_, ((t387 != false)), (by first | rfl | (simp; done) | (simp [*]; done)), H', ⟨by first | omega | exact Nat.le_refl _⟩, ⟨by (with_reducible repeat (first | apply Kd.R_alloc | apply Kd.R_drewN | apply Kd.R_drew)); exact HO373.out⟩, ⟨by (with_reducible repeat (first | apply Kd.R_alloc | apply Kd.R_drewN | apply Kd.R_drew)); exact Kd.R_mono HO393.out (fun _ hk => hk.1.2)⟩, ⟨by (with_reducible repeat (first | apply Kd.R_alloc | apply Kd.R_drewN | apply Kd.R_drew)); exact Kd.R_mono HO401.out (fun _ hk => hk.1.1.2)⟩, ⟨by repeat (first | (with_reducible first | exact HB.out | apply below_alloc | apply pw_below_drewN | apply below_drew1) | exact HB.out)⟩⟩
  case rest =>
   as_aux_lemma =>
   clear HC20
   try clear c1
   try clear p2
   try clear c3
   try clear c4
   try clear c5
   try clear c6
   try clear c37
   try clear c37b0
   try clear c37b1
   try clear c37b2
   try clear c38
   try clear c38b0
   try clear c38b1
   try clear c39
   try clear c39b0
   try clear c39b1
   try clear c39b2
   try clear c40
   try clear c40b0
   try clear c40b1
   try clear c41
   try clear c41b0
   try clear c41b1
   try clear c41b2
   try clear c42
   try clear c42b0
   try clear c42b1
   try clear c42b2
   try clear c43
   try clear c43b0
   try clear c43b1
   try clear c43b2
   try clear c44
   try clear c44b0
   try clear c44b1
   try clear c45
   try clear c45b0
   try clear c45b1
   try clear c45b2
   try clear c47
   try clear c48
   try clear c48b0
   try clear c48b1
   try clear c48b2
   try clear c50
   try clear c51
   try clear c51b0
   try clear c51b1
   try clear c51b2
   try clear c52
   try clear c52b0
   try clear c52b1
   try clear c53
   try clear c53b0
   try clear c53b1
   try clear c53b2
   try clear c54
   try clear c54b0
   try clear c54b1
   try clear c54b2
   try clear c55
   try clear c56
   try clear c57
   try clear c57b0
   try clear c57b1
   try clear c57b2
   try clear c58
   try clear c63
   try clear c63b0
   try clear c63b1
   try clear c63b2
   try clear c64
   try clear c69
   try clear c69b0
   try clear c69b1
   try clear c69b2
   obtain ⟨kq, x241_19, rfl, HA, HJ19, HO_5, HO_23, HO_27, HB⟩ := hcut
   cases kq with
   | zero => exact absurd HA.out (by simp [laws_FnWheelsTurn.j0])
   | succ kj19 =>
    have H := HA.out
    clear HA
    simp only [laws_FnWheelsTurn.j0] at H
    have c74 : ¬ (x241_19 = true) := fun c74 => by
     subst c74
     have H1 : (none) = some r := by rw [if_pos rfl] at H; exact H
     clear H
     have H := H1
     clear H1
     exact absurd H (by simp)
    replace c74 := Bool.eq_false_iff.mpr c74
    subst c74
    have H1 : (if t391 = true then ((impl_PeriodOfRules.f kj19 t370).bind fun bt412 => ((impl_LeftInPeriod.f kj19 t370).bind fun bt414 => (if bt412.2 = true then (if bt414.2 = true then (if bt414.1 = t406 then (if (t390.length : Int) = t406 then (if (t398.length : Int) = t406 then ((laws_gSum.f kj19 t398).bind fun t416 => (if t416 = bt412.1 then (if t406 < 1 then (none) else (laws_FnWheelsTurn.l0 kj19 t370 t371 t374 t375 t378 t379 t382 t386 t387 t390 t398 bt412.1 t390 (t390.length : Int) 0)) else (none))) else (none)) else (none)) else (none)) else (none)) else (none)))) else (some true)) = some r := by rw [if_neg (show ¬ (false = true) by decide)] at H; exact H
    clear H
    have H := H1
    clear H1
    by_cases c75 : t391 = true
    ·subst c75
     have H1 : ((impl_PeriodOfRules.f kj19 t370).bind fun bt412 => ((impl_LeftInPeriod.f kj19 t370).bind fun bt414 => (if bt412.2 = true then (if bt414.2 = true then (if bt414.1 = t406 then (if (t390.length : Int) = t406 then (if (t398.length : Int) = t406 then ((laws_gSum.f kj19 t398).bind fun t416 => (if t416 = bt412.1 then (if t406 < 1 then (none) else (laws_FnWheelsTurn.l0 kj19 t370 t371 t374 t375 t378 t379 t382 t386 t387 t390 t398 bt412.1 t390 (t390.length : Int) 0)) else (none))) else (none)) else (none)) else (none)) else (none)) else (none)))) = some r := by rw [if_pos rfl] at H; exact H
     clear H
     have H := H1
     clear H1
     replace H := Option.bind_eq_some_iff.mp H
     obtain ⟨⟨t412, t413⟩, A760, H⟩ := H
     replace H : ((impl_LeftInPeriod.f kj19 t370).bind fun bt414 => (if t413 = true then (if bt414.2 = true then (if bt414.1 = t406 then (if (t390.length : Int) = t406 then (if (t398.length : Int) = t406 then ((laws_gSum.f kj19 t398).bind fun t416 => (if t416 = t412 then (if t406 < 1 then (none) else (laws_FnWheelsTurn.l0 kj19 t370 t371 t374 t375 t378 t379 t382 t386 t387 t390 t398 t412 t390 (t390.length : Int) 0)) else (none))) else (none)) else (none)) else (none)) else (none)) else (none))) = some r := H
     have A76 := Aside0.mk A760
     clear A760
     replace H := Option.bind_eq_some_iff.mp H
     obtain ⟨⟨t414, t415⟩, A770, H⟩ := H
     replace H : (if t413 = true then (if t415 = true then (if t414 = t406 then (if (t390.length : Int) = t406 then (if (t398.length : Int) = t406 then ((laws_gSum.f kj19 t398).bind fun t416 => (if t416 = t412 then (if t406 < 1 then (none) else (laws_FnWheelsTurn.l0 kj19 t370 t371 t374 t375 t378 t379 t382 t386 t387 t390 t398 t412 t390 (t390.length : Int) 0)) else (none))) else (none)) else (none)) else (none)) else (none)) else (none)) = some r := H
     have A77 := Aside0.mk A770
     clear A770
     have c78 : t413 = true := Classical.byContradiction fun c78 => by
      replace c78 := Bool.eq_false_iff.mpr c78
      subst c78
      have H1 : (none) = some r := by rw [if_neg (show ¬ (false = true) by decide)] at H; exact H
      clear H
      have H := H1
      clear H1
      exact absurd H (by simp)
     subst c78
     have H1 : (if t415 = true then (if t414 = t406 then (if (t390.length : Int) = t406 then (if (t398.length : Int) = t406 then ((laws_gSum.f kj19 t398).bind fun t416 => (if t416 = t412 then (if t406 < 1 then (none) else (laws_FnWheelsTurn.l0 kj19 t370 t371 t374 t375 t378 t379 t382 t386 t387 t390 t398 t412 t390 (t390.length : Int) 0)) else (none))) else (none)) else (none)) else (none)) else (none)) = some r := by rw [if_pos rfl] at H; exact H
     clear H
     have H := H1
     clear H1
     have c79 : t415 = true := Classical.byContradiction fun c79 => by
      replace c79 := Bool.eq_false_iff.mpr c79
      subst c79
      have H1 : (none) = some r := by rw [if_neg (show ¬ (false = true) by decide)] at H; exact H
      clear H
      have H := H1
      clear H1
      exact absurd H (by simp)
     subst c79
     have H1 : (if t414 = t406 then (if (t390.length : Int) = t406 then (if (t398.length : Int) = t406 then ((laws_gSum.f kj19 t398).bind fun t416 => (if t416 = t412 then (if t406 < 1 then (none) else (laws_FnWheelsTurn.l0 kj19 t370 t371 t374 t375 t378 t379 t382 t386 t387 t390 t398 t412 t390 (t390.length : Int) 0)) else (none))) else (none)) else (none)) else (none)) = some r := by rw [if_pos rfl] at H; exact H
     clear H
     have H := H1
     clear H1
     have c80 : t414 = t406 := Classical.byContradiction fun c80 => by
      rw [if_neg c80] at H
      exact absurd H (by simp)
     rw [if_pos c80] at H
     have c80b0 : (t414 == t406) = true := beq_iff_eq.mpr c80
     have c80b1 : (t414 != t406) = false := bne_eq_false_iff_eq.mpr c80
     clear c80
     have c81 : (t390.length : Int) = t406 := Classical.byContradiction fun c81 => by
      rw [if_neg c81] at H
      exact absurd H (by simp)
     rw [if_pos c81] at H
     have c81b0 : ((t390.length : Int) == t406) = true := beq_iff_eq.mpr c81
     have c81b1 : ((t390.length : Int) != t406) = false := bne_eq_false_iff_eq.mpr c81
     clear c81
     have c82 : (t398.length : Int) = t406 := Classical.byContradiction fun c82 => by
      rw [if_neg c82] at H
      exact absurd H (by simp)
     rw [if_pos c82] at H
     have c82b0 : ((t398.length : Int) == t406) = true := beq_iff_eq.mpr c82
     have c82b1 : ((t398.length : Int) != t406) = false := bne_eq_false_iff_eq.mpr c82
     clear c82
     replace H := Option.bind_eq_some_iff.mp H
     obtain ⟨t416, A830, H⟩ := H
     replace H : (if t416 = t412 then (if t406 < 1 then (none) else (laws_FnWheelsTurn.l0 kj19 t370 t371 t374 t375 t378 t379 t382 t386 t387 t390 t398 t412 t390 (t390.length : Int) 0)) else (none)) = some r := H
     have A83 := Aside0.mk A830
     clear A830
     have c84 : t416 = t412 := Classical.byContradiction fun c84 => by
      rw [if_neg c84] at H
      exact absurd H (by simp)
     rw [if_pos c84] at H
     have c84b0 : (t416 == t412) = true := beq_iff_eq.mpr c84
     have c84b1 : (t416 != t412) = false := bne_eq_false_iff_eq.mpr c84
     clear c84
     have c85 : ¬ (t406 < 1) := fun c85 => by
      rw [if_pos c85] at H
      exact absurd H (by simp)
     rw [if_neg c85] at H
     have c85b0 : decide (t406 < 1) = false := decide_eq_false c85
     clear c85
     have H' := Aside0.mk H
     clear H
     as_aux_lemma =>
     go_wp2_with (first | (go_at_call 22; (with_reducible refine (impl_PeriodOfRules.calls kj19 _ _ t370 t412 true _ ?side1 ?side2 A76.out).mono ?_); (case side1 => repeat (first | exact (Kd.R_reads' HO_5.out).2.2 | (with_reducible refine Kd.C_alloc ?_ _) | (with_reducible refine Kd.C_drewN ?_ _) | (with_reducible refine Kd.C_drew ?_))); (case side2 => exact (Kd.R_reads' HO_5.out).2.1); rintro e w86 ⟨rfl, hb⟩; have n0_ := Aside0.mk (Kd.R_below (by (with_reducible repeat (first | apply Kd.R_alloc | apply Kd.R_drewN | apply Kd.R_drew)); exact HO_5.out) hb); have n1_ := Aside0.mk (Kd.R_below (by (with_reducible repeat (first | apply Kd.R_alloc | apply Kd.R_drewN | apply Kd.R_drew)); exact HO_23.out) hb); have n2_ := Aside0.mk (Kd.R_below (by (with_reducible repeat (first | apply Kd.R_alloc | apply Kd.R_drewN | apply Kd.R_drew)); exact HO_27.out) hb); have n3_ := Aside0.mk (below_step (by repeat (first | (with_reducible first | exact HB.out | apply below_alloc | apply pw_below_drewN | apply below_drew1) | exact HB.out)) hb); clear HO_5; clear HO_23; clear HO_27; clear HB; have HO_5 := n0_; have HO_23 := n1_; have HO_27 := n2_; have HB := n3_; clear n0_ n1_ n2_ n3_; (try clear hb); (try clear hb2); (try clear hk); (try clear hi)))
     as_aux_lemma =>
     go_wp2_with (first | (go_at_call 23; (with_reducible refine (impl_LeftInPeriod.calls kj19 _ _ t370 t414 true _ ?side1 ?side2 A77.out).mono ?_); (case side1 => repeat (first | exact (Kd.R_reads' HO_5.out).2.2 | (with_reducible refine Kd.C_alloc ?_ _) | (with_reducible refine Kd.C_drewN ?_ _) | (with_reducible refine Kd.C_drew ?_))); (case side2 => exact (Kd.R_reads' HO_5.out).2.1); rintro e w87 ⟨rfl, hb⟩; have n0_ := Aside0.mk (Kd.R_below (by (with_reducible repeat (first | apply Kd.R_alloc | apply Kd.R_drewN | apply Kd.R_drew)); exact HO_5.out) hb); have n1_ := Aside0.mk (Kd.R_below (by (with_reducible repeat (first | apply Kd.R_alloc | apply Kd.R_drewN | apply Kd.R_drew)); exact HO_23.out) hb); have n2_ := Aside0.mk (Kd.R_below (by (with_reducible repeat (first | apply Kd.R_alloc | apply Kd.R_drewN | apply Kd.R_drew)); exact HO_27.out) hb); have n3_ := Aside0.mk (below_step (by repeat (first | (with_reducible first | exact HB.out | apply below_alloc | apply pw_below_drewN | apply below_drew1) | exact HB.out)) hb); clear HO_5; clear HO_23; clear HO_27; clear HB; have HO_5 := n0_; have HO_23 := n1_; have HO_27 := n2_; have HB := n3_; clear n0_ n1_ n2_ n3_; (try clear hb); (try clear hb2); (try clear hk); (try clear hi); obtain ⟨Ao88, co88, eo88⟩ := Kd.R_slice HO_23.out; subst eo88; obtain ⟨Ao89, co89, eo89⟩ := Kd.R_slice HO_27.out; subst eo89))
     as_aux_lemma =>
     go_wp2_with (first | (go_at_call 24; (with_reducible refine (laws_gSum.calls kj19 _ _ t398 t416 _ ?side1 ?side2 A83.out).mono ?_); (case side1 => repeat (first | exact (Kd.R_reads' HO_27.out).2.2 | (with_reducible refine Kd.C_alloc ?_ _) | (with_reducible refine Kd.C_drewN ?_ _) | (with_reducible refine Kd.C_drew ?_))); (case side2 => exact (Kd.R_reads' HO_27.out).2.1); rintro e w' ⟨rfl, ⟨nd, rfl⟩⟩; (try first | exact ⟨rfl, _, World.drewN_drewN _ _ _⟩ | exact ⟨rfl, _, Eq.trans (World.drewN_drewN _ _ _) (congrArg (World.drewN _) (Nat.add_assoc _ _ _))⟩)))
     repeat (go_quiet (first | (go_at_call 22; (with_reducible refine (impl_PeriodOfRules.calls kj19 _ _ t370 t412 true _ ?side1 ?side2 A76.out).mono ?_); (case side1 => repeat (first | exact (Kd.R_reads' HO_5.out).2.2 | (with_reducible refine Kd.C_alloc ?_ _) | (with_reducible refine Kd.C_drewN ?_ _) | (with_reducible refine Kd.C_drew ?_))); (case side2 => exact (Kd.R_reads' HO_5.out).2.1); rintro e w86 ⟨rfl, hb⟩; have n0_ := Aside0.mk (Kd.R_below (by (with_reducible repeat (first | apply Kd.R_alloc | apply Kd.R_drewN | apply Kd.R_drew)); exact HO_5.out) hb); have n1_ := Aside0.mk (Kd.R_below (by (with_reducible repeat (first | apply Kd.R_alloc | apply Kd.R_drewN | apply Kd.R_drew)); exact HO_23.out) hb); have n2_ := Aside0.mk (Kd.R_below (by (with_reducible repeat (first | apply Kd.R_alloc | apply Kd.R_drewN | apply Kd.R_drew)); exact HO_27.out) hb); have n3_ := Aside0.mk (below_step (by repeat (first | (with_reducible first | exact HB.out | apply below_alloc | apply pw_below_drewN | apply below_drew1) | exact HB.out)) hb); clear HO_5; clear HO_23; clear HO_27; clear HB; have HO_5 := n0_; have HO_23 := n1_; have HO_27 := n2_; have HB := n3_; clear n0_ n1_ n2_ n3_; (try clear hb); (try clear hb2); (try clear hk); (try clear hi)) | (go_at_call 23; (with_reducible refine (impl_LeftInPeriod.calls kj19 _ _ t370 t414 true _ ?side1 ?side2 A77.out).mono ?_); (case side1 => repeat (first | exact (Kd.R_reads' HO_5.out).2.2 | (with_reducible refine Kd.C_alloc ?_ _) | (with_reducible refine Kd.C_drewN ?_ _) | (with_reducible refine Kd.C_drew ?_))); (case side2 => exact (Kd.R_reads' HO_5.out).2.1); rintro e w87 ⟨rfl, hb⟩; have n0_ := Aside0.mk (Kd.R_below (by (with_reducible repeat (first | apply Kd.R_alloc | apply Kd.R_drewN | apply Kd.R_drew)); exact HO_5.out) hb); have n1_ := Aside0.mk (Kd.R_below (by (with_reducible repeat (first | apply Kd.R_alloc | apply Kd.R_drewN | apply Kd.R_drew)); exact HO_23.out) hb); have n2_ := Aside0.mk (Kd.R_below (by (with_reducible repeat (first | apply Kd.R_alloc | apply Kd.R_drewN | apply Kd.R_drew)); exact HO_27.out) hb); have n3_ := Aside0.mk (below_step (by repeat (first | (with_reducible first | exact HB.out | apply below_alloc | apply pw_below_drewN | apply below_drew1) | exact HB.out)) hb); clear HO_5; clear HO_23; clear HO_27; clear HB; have HO_5 := n0_; have HO_23 := n1_; have HO_27 := n2_; have HB := n3_; clear n0_ n1_ n2_ n3_; (try clear hb); (try clear hb2); (try clear hk); (try clear hi); obtain ⟨Ao88, co88, eo88⟩ := Kd.R_slice HO_23.out; subst eo88; obtain ⟨Ao89, co89, eo89⟩ := Kd.R_slice HO_27.out; subst eo89) | (go_at_call 24; (with_reducible refine (laws_gSum.calls kj19 _ _ t398 t416 _ ?side1 ?side2 A83.out).mono ?_); (case side1 => repeat (first | exact (Kd.R_reads' HO_27.out).2.2 | (with_reducible refine Kd.C_alloc ?_ _) | (with_reducible refine Kd.C_drewN ?_ _) | (with_reducible refine Kd.C_drew ?_))); (case side2 => exact (Kd.R_reads' HO_27.out).2.1); rintro e w' ⟨rfl, ⟨nd, rfl⟩⟩; (try first | exact ⟨rfl, _, World.drewN_drewN _ _ _⟩ | exact ⟨rfl, _, Eq.trans (World.drewN_drewN _ _ _) (congrArg (World.drewN _) (Nat.add_assoc _ _ _))⟩))); try go_wp2_with (first | (go_at_call 22; (with_reducible refine (impl_PeriodOfRules.calls kj19 _ _ t370 t412 true _ ?side1 ?side2 A76.out).mono ?_); (case side1 => repeat (first | exact (Kd.R_reads' HO_5.out).2.2 | (with_reducible refine Kd.C_alloc ?_ _) | (with_reducible refine Kd.C_drewN ?_ _) | (with_reducible refine Kd.C_drew ?_))); (case side2 => exact (Kd.R_reads' HO_5.out).2.1); rintro e w86 ⟨rfl, hb⟩; have n0_ := Aside0.mk (Kd.R_below (by (with_reducible repeat (first | apply Kd.R_alloc | apply Kd.R_drewN | apply Kd.R_drew)); exact HO_5.out) hb); have n1_ := Aside0.mk (Kd.R_below (by (with_reducible repeat (first | apply Kd.R_alloc | apply Kd.R_drewN | apply Kd.R_drew)); exact HO_23.out) hb); have n2_ := Aside0.mk (Kd.R_below (by (with_reducible repeat (first | apply Kd.R_alloc | apply Kd.R_drewN | apply Kd.R_drew)); exact HO_27.out) hb); have n3_ := Aside0.mk (below_step (by repeat (first | (with_reducible first | exact HB.out | apply below_alloc | apply pw_below_drewN | apply below_drew1) | exact HB.out)) hb); clear HO_5; clear HO_23; clear HO_27; clear HB; have HO_5 := n0_; have HO_23 := n1_; have HO_27 := n2_; have HB := n3_; clear n0_ n1_ n2_ n3_; (try clear hb); (try clear hb2); (try clear hk); (try clear hi)) | (go_at_call 23; (with_reducible refine (impl_LeftInPeriod.calls kj19 _ _ t370 t414 true _ ?side1 ?side2 A77.out).mono ?_); (case side1 => repeat (first | exact (Kd.R_reads' HO_5.out).2.2 | (with_reducible refine Kd.C_alloc ?_ _) | (with_reducible refine Kd.C_drewN ?_ _) | (with_reducible refine Kd.C_drew ?_))); (case side2 => exact (Kd.R_reads' HO_5.out).2.1); rintro e w87 ⟨rfl, hb⟩; have n0_ := Aside0.mk (Kd.R_below (by (with_reducible repeat (first | apply Kd.R_alloc | apply Kd.R_drewN | apply Kd.R_drew)); exact HO_5.out) hb); have n1_ := Aside0.mk (Kd.R_below (by (with_reducible repeat (first | apply Kd.R_alloc | apply Kd.R_drewN | apply Kd.R_drew)); exact HO_23.out) hb); have n2_ := Aside0.mk (Kd.R_below (by (with_reducible repeat (first | apply Kd.R_alloc | apply Kd.R_drewN | apply Kd.R_drew)); exact HO_27.out) hb); have n3_ := Aside0.mk (below_step (by repeat (first | (with_reducible first | exact HB.out | apply below_alloc | apply pw_below_drewN | apply below_drew1) | exact HB.out)) hb); clear HO_5; clear HO_23; clear HO_27; clear HB; have HO_5 := n0_; have HO_23 := n1_; have HO_27 := n2_; have HB := n3_; clear n0_ n1_ n2_ n3_; (try clear hb); (try clear hb2); (try clear hk); (try clear hi); obtain ⟨Ao88, co88, eo88⟩ := Kd.R_slice HO_23.out; subst eo88; obtain ⟨Ao89, co89, eo89⟩ := Kd.R_slice HO_27.out; subst eo89) | (go_at_call 24; (with_reducible refine (laws_gSum.calls kj19 _ _ t398 t416 _ ?side1 ?side2 A83.out).mono ?_); (case side1 => repeat (first | exact (Kd.R_reads' HO_27.out).2.2 | (with_reducible refine Kd.C_alloc ?_ _) | (with_reducible refine Kd.C_drewN ?_ _) | (with_reducible refine Kd.C_drew ?_))); (case side2 => exact (Kd.R_reads' HO_27.out).2.1); rintro e w' ⟨rfl, ⟨nd, rfl⟩⟩; (try first | exact ⟨rfl, _, World.drewN_drewN _ _ _⟩ | exact ⟨rfl, _, Eq.trans (World.drewN_drewN _ _ _) (congrArg (World.drewN _) (Nat.add_assoc _ _ _))⟩))))
     as_aux_lemma =>
     go_loopg [289] kj19 (fun kq v289 w' => ∃ (x289_2 : Int), v289 = .int .i64 x289_2 ∧ Aside0 (laws_FnWheelsTurn.l0 kq t370 t371 t374 t375 t378 t379 t382 t386 t387 t390 t398 t412 t390 (t390.length : Int) x289_2 = some r) ∧ Aside0 (kq ≤ kj19) ∧ Aside0 (Kd.R k45 45 w' w.heap.size (fun _ => True) (.slice Ao22 t370.length co22) t370) ∧ Aside0 (Kd.R (Kd.int .i64) 3 w' w.heap.size (fun k_ => some k_ ≠ ((.slice Ao89 t398.length co89) : Value).ownBlock) (.slice Ao88 t390.length co88) t390) ∧ Aside0 (Kd.R (Kd.int .i64) 3 w' w.heap.size (fun k_ => some k_ ≠ ((.slice Ao88 t390.length co88) : Value).ownBlock ∧ some k_ ≠ ((.slice Ao88 t390.length co88) : Value).ownBlock) (.slice Ao89 t398.length co89) t398) ∧ Aside0 (Kd.R (Kd.int .i64) 3 w' w.heap.size (fun k_ => some k_ ≠ ((.slice Ao89 t398.length co89) : Value).ownBlock) (.slice Ao88 t390.length co88) t390) ∧ Aside0 (Below w.heap.size w w'))
     case atStart => exact ⟨(0), (by first | rfl | (simp; done) | (simp [*]; done)), H', ⟨Nat.le_refl _⟩, ⟨by (with_reducible repeat (first | apply Kd.R_alloc | apply Kd.R_drewN | apply Kd.R_drew)); exact HO_5.out⟩, ⟨by (with_reducible repeat (first | apply Kd.R_alloc | apply Kd.R_drewN | apply Kd.R_drew)); exact HO_23.out⟩, ⟨by (with_reducible repeat (first | apply Kd.R_alloc | apply Kd.R_drewN | apply Kd.R_drew)); exact Kd.R_mono HO_27.out (fun _ hk => ⟨hk, hk⟩)⟩, ⟨by (with_reducible repeat (first | apply Kd.R_alloc | apply Kd.R_drewN | apply Kd.R_drew)); exact HO_23.out⟩, ⟨by repeat (first | (with_reducible first | exact HB.out | apply below_alloc | apply pw_below_drewN | apply below_drew1) | exact HB.out)⟩⟩
     case round =>
      as_aux_lemma =>
      clear H'
      try clear c1
      try clear p2
      try clear c3
      try clear c4
      try clear c5
      try clear c6
      try clear c7
      try clear c8
      try clear c37
      try clear c37b0
      try clear c37b1
      try clear c37b2
      try clear c38
      try clear c38b0
      try clear c38b1
      try clear c39
      try clear c39b0
      try clear c39b1
      try clear c39b2
      try clear c40
      try clear c40b0
      try clear c40b1
      try clear c41
      try clear c41b0
      try clear c41b1
      try clear c41b2
      try clear c42
      try clear c42b0
      try clear c42b1
      try clear c42b2
      try clear c43
      try clear c43b0
      try clear c43b1
      try clear c43b2
      try clear c44
      try clear c44b0
      try clear c44b1
      try clear c45
      try clear c45b0
      try clear c45b1
      try clear c45b2
      try clear c47
      try clear c48
      try clear c48b0
      try clear c48b1
      try clear c48b2
      try clear c50
      try clear c51
      try clear c51b0
      try clear c51b1
      try clear c51b2
      try clear c52
      try clear c52b0
      try clear c52b1
      try clear c53
      try clear c53b0
      try clear c53b1
      try clear c53b2
      try clear c54
      try clear c54b0
      try clear c54b1
      try clear c54b2
      try clear c55
      try clear c56
      try clear c57
      try clear c57b0
      try clear c57b1
      try clear c57b2
      try clear c58
      try clear c63
      try clear c63b0
      try clear c63b1
      try clear c63b2
      try clear c64
      try clear c69
      try clear c69b0
      try clear c69b1
      try clear c69b2
      try clear c74
      try clear c75
      try clear c78
      try clear c79
      try clear c80
      try clear c80b0
      try clear c80b1
      try clear c81
      try clear c81b0
      try clear c81b1
      try clear c82
      try clear c82b0
      try clear c82b1
      try clear c84
      try clear c84b0
      try clear c84b1
      try clear c85
      try clear c85b0
      try clear p2
      obtain ⟨x289_2, rfl, HA, HK2, HO_5, HO_23, HO_27, HO_287, HB⟩ := hrel
      cases gk with
      | zero => exact absurd HA.out (by simp [laws_FnWheelsTurn.l0])
      | succ k2 =>
       have H := HA.out
       clear HA
       simp only [laws_FnWheelsTurn.l0] at H
       by_cases c90 : x289_2 < (t390.length : Int)
       ·as_aux_lemma =>
        rw [if_pos c90] at H
        have c90b0 : decide (x289_2 < (t390.length : Int)) = true := decide_eq_true c90
        clear c90
        have c91 : 0 ≤ x289_2 := Classical.byContradiction fun c91 => by
         rw [if_neg c91] at H
         exact absurd H (by simp)
        rw [if_pos c91] at H
        have c91b0 : decide (0 ≤ x289_2) = true := decide_eq_true c91
        clear c91
        have c92 : x289_2 < (t390.length : Int) := Classical.byContradiction fun c92 => by
         rw [if_neg c92] at H
         exact absurd H (by simp)
        rw [if_pos c92] at H
        have c92b0 : decide (x289_2 < (t390.length : Int)) = true := decide_eq_true c92
        clear c92
        have HC93 := Aside0.mk H
        clear H
        have p417 : 0 ≤ (x289_2 : Int) := of_decide_eq_true (by first | (with_reducible assumption) | assumption)
        have q417 : x289_2 < (t390.length : Int) := of_decide_eq_true (by first | (with_reducible assumption) | assumption)
        obtain ⟨ad417, e417, hx417_0⟩ := Kd.at_int (Kd.R_reads' HO_287.out).2.2 x289_2 p417 q417
        cases e417
        replace p417 := eq_true p417
        replace q417 := eq_true q417
        as_aux_lemma =>
        go_upto_region 29 with (fail)
        repeat (go_quiet (fail); go_upto_region 29 with (fail))
        go_cut [319] from 9999 to 9999 (fun v319 wc => ∃ (kq : Nat) (x319_92 : Bool), v319 = .bool x319_92 ∧ Aside0 (laws_FnWheelsTurn.j2 kq t370 t371 t374 t375 t378 t379 t382 t386 t387 t390 t398 t412 (rd t390 x289_2) t390 (t390.length : Int) x289_2 x319_92 = some r) ∧ Aside0 (kq ≤ k2) ∧ Aside0 (Kd.R k45 45 wc w.heap.size (fun _ => True) (.slice Ao22 t370.length co22) t370) ∧ Aside0 (Kd.R (Kd.int .i64) 3 wc w.heap.size (fun k_ => some k_ ≠ ((.slice Ao89 t398.length co89) : Value).ownBlock) (.slice (some ad417) t390.length co88) t390) ∧ Aside0 (Kd.R (Kd.int .i64) 3 wc w.heap.size (fun k_ => some k_ ≠ ((.slice (some ad417) t390.length co88) : Value).ownBlock ∧ some k_ ≠ ((.slice (some ad417) t390.length co88) : Value).ownBlock) (.slice Ao89 t398.length co89) t398) ∧ Aside0 (Kd.R (Kd.int .i64) 3 wc w.heap.size (fun k_ => some k_ ≠ ((.slice Ao89 t398.length co89) : Value).ownBlock) (.slice (some ad417) t390.length co88) t390) ∧ Aside0 (Below w.heap.size w wc))
        case first =>
         as_aux_lemma =>
         have H := HC93.out
         clear HC93
         have c94 : ¬ ((rd t390 x289_2) < 1) := fun c94 => by
          rw [if_pos c94] at H
          exact absurd H (by simp)
         rw [if_neg c94] at H
         have c94b0 : decide ((rd t390 x289_2) < 1) = false := decide_eq_false c94
         clear c94
         (first | rw [c94b0] | (simp only [i64_w, i32_w]; rw [c94b0]) | skip)
         have c95 : ¬ ((rd t390 x289_2) > t412) := fun c95 => by
          rw [if_pos c95] at H
          exact absurd H (by simp)
         rw [if_neg c95] at H
         have c95b0 : decide (t412 < (rd t390 x289_2)) = false := decide_eq_false c95
         clear c95
         by_cases c96 : x289_2 > 0
         ·as_aux_lemma =>
          rw [if_pos c96] at H
          have c96b0 : decide (0 < x289_2) = true := decide_eq_true c96
          clear c96
          obtain ⟨ji97, hji97⟩ : ∃ j_ : Int, (wrap64 (x289_2 - 1)) = j_ := ⟨_, rfl⟩
          replace H : (if 0 ≤ (ji97) then (if (ji97) < (t390.length : Int) then (if (ji97) < (t398.length : Int) then (laws_FnWheelsTurn.j2 k2 t370 t371 t374 t375 t378 t379 t382 t386 t387 t390 t398 t412 (rd t390 x289_2) t390 (t390.length : Int) x289_2 ((wrap64 ((rd t390 x289_2) - (rd t390 (ji97)))) != (rd t398 (ji97)))) else (none)) else (none)) else (none)) = some r := by first | (rw [hji97] at H; exact H) | (simp only [hji97] at H ⊢; exact H)
          have hji97w : (IntKind.i64.wrap (x289_2 - 1)) = ji97 := (i64_w _).trans hji97
          have c98 : 0 ≤ (ji97) := Classical.byContradiction fun c98 => by
           rw [if_neg c98] at H
           exact absurd H (by simp)
          rw [if_pos c98] at H
          have c98b0 : decide (0 ≤ (ji97)) = true := decide_eq_true c98
          clear c98
          have c99 : (ji97) < (t390.length : Int) := Classical.byContradiction fun c99 => by
           rw [if_neg c99] at H
           exact absurd H (by simp)
          rw [if_pos c99] at H
          have c99b0 : decide ((ji97) < (t390.length : Int)) = true := decide_eq_true c99
          clear c99
          have c100 : (ji97) < (t398.length : Int) := Classical.byContradiction fun c100 => by
           rw [if_neg c100] at H
           exact absurd H (by simp)
          rw [if_pos c100] at H
          have c100b0 : decide ((ji97) < (t398.length : Int)) = true := decide_eq_true c100
          clear c100
          have H' := Aside0.mk H
          clear H
          have p418 : 0 ≤ ((ji97) : Int) := of_decide_eq_true (by first | (with_reducible assumption) | assumption)
          have q418 : (ji97) < (t390.length : Int) := of_decide_eq_true (by first | (with_reducible assumption) | assumption)
          obtain ⟨ad418, e418, hx418_0⟩ := Kd.at_int (Kd.R_reads' HO_23.out).2.2 (ji97) p418 q418
          obtain rfl : ad417 = ad418 := (by injection e418)
          replace p418 := eq_true p418
          replace q418 := eq_true q418
          have p419 : 0 ≤ ((ji97) : Int) := of_decide_eq_true (by first | (with_reducible assumption) | assumption)
          have q419 : (ji97) < (t398.length : Int) := of_decide_eq_true (by first | (with_reducible assumption) | assumption)
          obtain ⟨ad419, e419, hx419_0⟩ := Kd.at_int (Kd.R_reads' HO_27.out).2.2 (ji97) p419 q419
          cases e419
          replace p419 := eq_true p419
          replace q419 := eq_true q419
          as_aux_lemma =>
          go_wp2
          repeat (go_quiet (fail); try go_wp2)
          as_aux_lemma =>
          go_meet
          case rel => exact ⟨_, (((wrap64 ((rd t390 x289_2) - (rd t390 (ji97)))) != (rd t398 (ji97)))), (by first | rfl | (simp; done) | (simp only [← hji97] <;> (first | rfl | simp)) | (simp [*]; done)), H', ⟨by have := HJ19.out; have := HK2.out; first | omega | exact Nat.le_refl _⟩, ⟨by (with_reducible repeat (first | apply Kd.R_alloc | apply Kd.R_drewN | apply Kd.R_drew)); exact HO_5.out⟩, ⟨by (with_reducible repeat (first | apply Kd.R_alloc | apply Kd.R_drewN | apply Kd.R_drew)); exact HO_23.out⟩, ⟨by (with_reducible repeat (first | apply Kd.R_alloc | apply Kd.R_drewN | apply Kd.R_drew)); exact HO_27.out⟩, ⟨by (with_reducible repeat (first | apply Kd.R_alloc | apply Kd.R_drewN | apply Kd.R_drew)); exact HO_287.out⟩, ⟨by repeat (first | (with_reducible first | exact HB.out | apply below_alloc | apply pw_below_drewN | apply below_drew1) | exact HB.out)⟩⟩
         ·as_aux_lemma =>
          rw [if_neg c96] at H
          have c96b0 : decide (0 < x289_2) = false := decide_eq_false c96
          clear c96
          have H' := Aside0.mk H
          clear H
          as_aux_lemma =>
          go_wp2
          repeat (go_quiet (fail); try go_wp2)
          as_aux_lemma =>
          go_meet
          case rel => exact ⟨_, (false), (by first | rfl | (simp; done) | (simp [*]; done)), H', ⟨by have := HJ19.out; have := HK2.out; first | omega | exact Nat.le_refl _⟩, ⟨by (with_reducible repeat (first | apply Kd.R_alloc | apply Kd.R_drewN | apply Kd.R_drew)); exact HO_5.out⟩, ⟨by (with_reducible repeat (first | apply Kd.R_alloc | apply Kd.R_drewN | apply Kd.R_drew)); exact HO_23.out⟩, ⟨by (with_reducible repeat (first | apply Kd.R_alloc | apply Kd.R_drewN | apply Kd.R_drew)); exact HO_27.out⟩, ⟨by (with_reducible repeat (first | apply Kd.R_alloc | apply Kd.R_drewN | apply Kd.R_drew)); exact HO_287.out⟩, ⟨by repeat (first | (with_reducible first | exact HB.out | apply below_alloc | apply pw_below_drewN | apply below_drew1) | exact HB.out)⟩⟩
        case rest =>
         as_aux_lemma =>
         clear HC93
         try clear c1
         try clear p2
         try clear c3
         try clear c4
         try clear p4
         try clear q4
         try clear hx4
         try clear c5
         try clear c6
         try clear p6
         try clear c7
         try clear c8
         try clear c9
         try clear c10
         try clear c37
         try clear c37b0
         try clear c37b1
         try clear c37b2
         try clear c38
         try clear c38b0
         try clear c38b1
         try clear c39
         try clear c39b0
         try clear c39b1
         try clear c39b2
         try clear c40
         try clear c40b0
         try clear c40b1
         try clear c41
         try clear c41b0
         try clear c41b1
         try clear c41b2
         try clear p41
         try clear q41
         try clear hx41
         try clear c42
         try clear c42b0
         try clear c42b1
         try clear c42b2
         try clear c43
         try clear c43b0
         try clear c43b1
         try clear c43b2
         try clear c44
         try clear c44b0
         try clear c44b1
         try clear c45
         try clear c45b0
         try clear c45b1
         try clear c45b2
         try clear c47
         try clear c48
         try clear c48b0
         try clear c48b1
         try clear c48b2
         try clear c50
         try clear c51
         try clear c51b0
         try clear c51b1
         try clear c51b2
         try clear c52
         try clear c52b0
         try clear c52b1
         try clear c53
         try clear c53b0
         try clear c53b1
         try clear c53b2
         try clear c54
         try clear c54b0
         try clear c54b1
         try clear c54b2
         try clear c55
         try clear c56
         try clear c57
         try clear c57b0
         try clear c57b1
         try clear c57b2
         try clear c58
         try clear c63
         try clear c63b0
         try clear c63b1
         try clear c63b2
         try clear c64
         try clear p64
         try clear c69
         try clear c69b0
         try clear c69b1
         try clear c69b2
         try clear c74
         try clear c75
         try clear c78
         try clear c79
         try clear c80
         try clear c80b0
         try clear c80b1
         try clear c81
         try clear c81b0
         try clear c81b1
         try clear c82
         try clear c82b0
         try clear c82b1
         try clear c84
         try clear c84b0
         try clear c84b1
         try clear c85
         try clear c85b0
         try clear c90
         try clear c90b0
         try clear c91
         try clear c91b0
         try clear c92
         try clear c92b0
         try clear c94
         try clear c94b0
         try clear c95
         try clear c95b0
         try clear c96
         try clear c96b0
         try clear c98
         try clear c98b0
         try clear c99
         try clear c99b0
         try clear c100
         try clear c100b0
         try clear hx417_0
         try clear hx418_0
         try clear hx419_0
         try clear p2
         try clear p417
         try clear p418
         try clear p419
         try clear q417
         try clear q418
         try clear q419
         obtain ⟨kq, x319_92, rfl, HA, HJ92, HO_5, HO_23, HO_27, HO_287, HB⟩ := hcut
         cases kq with
         | zero => exact absurd HA.out (by simp [laws_FnWheelsTurn.j2])
         | succ kj92 =>
          have H := HA.out
          clear HA
          simp only [laws_FnWheelsTurn.j2] at H
          have c101 : ¬ (x319_92 = true) := fun c101 => by
           subst c101
           have H1 : (none) = some r := by rw [if_pos rfl] at H; exact H
           clear H
           have H := H1
           clear H1
           exact absurd H (by simp)
          replace c101 := Bool.eq_false_iff.mpr c101
          subst c101
          have H1 : ((impl_IsSpoke.f kj92 t370 (wrap64 ((rd t390 x289_2) + (wrap64 (3 * t412))))).bind fun bt420 => (if bt420.2 = true then (if bt420.1 = true then (laws_FnWheelsTurn.l0 kj92 t370 t371 t374 t375 t378 t379 t382 t386 t387 t390 t398 t412 t390 (t390.length : Int) (wrap64 (x289_2 + 1))) else (none)) else (none))) = some r := by rw [if_neg (show ¬ (false = true) by decide)] at H; exact H
          clear H
          have H := H1
          clear H1
          replace H := Option.bind_eq_some_iff.mp H
          obtain ⟨⟨t420, t421⟩, A1020, H⟩ := H
          replace H : (if t421 = true then (if t420 = true then (laws_FnWheelsTurn.l0 kj92 t370 t371 t374 t375 t378 t379 t382 t386 t387 t390 t398 t412 t390 (t390.length : Int) (wrap64 (x289_2 + 1))) else (none)) else (none)) = some r := H
          have A102 := Aside0.mk A1020
          clear A1020
          have c103 : t421 = true := Classical.byContradiction fun c103 => by
           replace c103 := Bool.eq_false_iff.mpr c103
           subst c103
           have H1 : (none) = some r := by rw [if_neg (show ¬ (false = true) by decide)] at H; exact H
           clear H
           have H := H1
           clear H1
           exact absurd H (by simp)
          subst c103
          have H1 : (if t420 = true then (laws_FnWheelsTurn.l0 kj92 t370 t371 t374 t375 t378 t379 t382 t386 t387 t390 t398 t412 t390 (t390.length : Int) (wrap64 (x289_2 + 1))) else (none)) = some r := by rw [if_pos rfl] at H; exact H
          clear H
          have H := H1
          clear H1
          have c104 : t420 = true := Classical.byContradiction fun c104 => by
           replace c104 := Bool.eq_false_iff.mpr c104
           subst c104
           have H1 : (none) = some r := by rw [if_neg (show ¬ (false = true) by decide)] at H; exact H
           clear H
           have H := H1
           clear H1
           exact absurd H (by simp)
          subst c104
          have H1 : (laws_FnWheelsTurn.l0 kj92 t370 t371 t374 t375 t378 t379 t382 t386 t387 t390 t398 t412 t390 (t390.length : Int) (wrap64 (x289_2 + 1))) = some r := by rw [if_pos rfl] at H; exact H
          clear H
          have H := H1
          clear H1
          have H' := Aside0.mk H
          clear H
          as_aux_lemma =>
          go_wp2_with (first | (go_at_call 11; (with_reducible refine (impl_IsSpoke.calls kj92 _ _ t370 (wrap64 ((rd t390 x289_2) + (wrap64 (3 * t412)))) true true _ ?side1 ?side2 A102.out).mono ?_); (case side1 => repeat (first | exact (Kd.R_reads' HO_5.out).2.2 | (with_reducible refine Kd.C_alloc ?_ _) | (with_reducible refine Kd.C_drewN ?_ _) | (with_reducible refine Kd.C_drew ?_))); (case side2 => exact (Kd.R_reads' HO_5.out).2.1); rintro e w105 ⟨rfl, hb⟩; have n0_ := Aside0.mk (Kd.R_below (by (with_reducible repeat (first | apply Kd.R_alloc | apply Kd.R_drewN | apply Kd.R_drew)); exact HO_5.out) hb); have n1_ := Aside0.mk (Kd.R_below (by (with_reducible repeat (first | apply Kd.R_alloc | apply Kd.R_drewN | apply Kd.R_drew)); exact HO_23.out) hb); have n2_ := Aside0.mk (Kd.R_below (by (with_reducible repeat (first | apply Kd.R_alloc | apply Kd.R_drewN | apply Kd.R_drew)); exact HO_27.out) hb); have n3_ := Aside0.mk (Kd.R_below (by (with_reducible repeat (first | apply Kd.R_alloc | apply Kd.R_drewN | apply Kd.R_drew)); exact HO_287.out) hb); have n4_ := Aside0.mk (below_step (by repeat (first | (with_reducible first | exact HB.out | apply below_alloc | apply pw_below_drewN | apply below_drew1) | exact HB.out)) hb); clear HO_5; clear HO_23; clear HO_27; clear HO_287; clear HB; have HO_5 := n0_; have HO_23 := n1_; have HO_27 := n2_; have HO_287 := n3_; have HB := n4_; clear n0_ n1_ n2_ n3_ n4_; (try clear hb); (try clear hb2); (try clear hk); (try clear hi)))
          repeat (go_quiet (first | (go_at_call 11; (with_reducible refine (impl_IsSpoke.calls kj92 _ _ t370 (wrap64 ((rd t390 x289_2) + (wrap64 (3 * t412)))) true true _ ?side1 ?side2 A102.out).mono ?_); (case side1 => repeat (first | exact (Kd.R_reads' HO_5.out).2.2 | (with_reducible refine Kd.C_alloc ?_ _) | (with_reducible refine Kd.C_drewN ?_ _) | (with_reducible refine Kd.C_drew ?_))); (case side2 => exact (Kd.R_reads' HO_5.out).2.1); rintro e w105 ⟨rfl, hb⟩; have n0_ := Aside0.mk (Kd.R_below (by (with_reducible repeat (first | apply Kd.R_alloc | apply Kd.R_drewN | apply Kd.R_drew)); exact HO_5.out) hb); have n1_ := Aside0.mk (Kd.R_below (by (with_reducible repeat (first | apply Kd.R_alloc | apply Kd.R_drewN | apply Kd.R_drew)); exact HO_23.out) hb); have n2_ := Aside0.mk (Kd.R_below (by (with_reducible repeat (first | apply Kd.R_alloc | apply Kd.R_drewN | apply Kd.R_drew)); exact HO_27.out) hb); have n3_ := Aside0.mk (Kd.R_below (by (with_reducible repeat (first | apply Kd.R_alloc | apply Kd.R_drewN | apply Kd.R_drew)); exact HO_287.out) hb); have n4_ := Aside0.mk (below_step (by repeat (first | (with_reducible first | exact HB.out | apply below_alloc | apply pw_below_drewN | apply below_drew1) | exact HB.out)) hb); clear HO_5; clear HO_23; clear HO_27; clear HO_287; clear HB; have HO_5 := n0_; have HO_23 := n1_; have HO_27 := n2_; have HO_287 := n3_; have HB := n4_; clear n0_ n1_ n2_ n3_ n4_; (try clear hb); (try clear hb2); (try clear hk); (try clear hi))); try go_wp2_with (first | (go_at_call 11; (with_reducible refine (impl_IsSpoke.calls kj92 _ _ t370 (wrap64 ((rd t390 x289_2) + (wrap64 (3 * t412)))) true true _ ?side1 ?side2 A102.out).mono ?_); (case side1 => repeat (first | exact (Kd.R_reads' HO_5.out).2.2 | (with_reducible refine Kd.C_alloc ?_ _) | (with_reducible refine Kd.C_drewN ?_ _) | (with_reducible refine Kd.C_drew ?_))); (case side2 => exact (Kd.R_reads' HO_5.out).2.1); rintro e w105 ⟨rfl, hb⟩; have n0_ := Aside0.mk (Kd.R_below (by (with_reducible repeat (first | apply Kd.R_alloc | apply Kd.R_drewN | apply Kd.R_drew)); exact HO_5.out) hb); have n1_ := Aside0.mk (Kd.R_below (by (with_reducible repeat (first | apply Kd.R_alloc | apply Kd.R_drewN | apply Kd.R_drew)); exact HO_23.out) hb); have n2_ := Aside0.mk (Kd.R_below (by (with_reducible repeat (first | apply Kd.R_alloc | apply Kd.R_drewN | apply Kd.R_drew)); exact HO_27.out) hb); have n3_ := Aside0.mk (Kd.R_below (by (with_reducible repeat (first | apply Kd.R_alloc | apply Kd.R_drewN | apply Kd.R_drew)); exact HO_287.out) hb); have n4_ := Aside0.mk (below_step (by repeat (first | (with_reducible first | exact HB.out | apply below_alloc | apply pw_below_drewN | apply below_drew1) | exact HB.out)) hb); clear HO_5; clear HO_23; clear HO_27; clear HO_287; clear HB; have HO_5 := n0_; have HO_23 := n1_; have HO_27 := n2_; have HO_287 := n3_; have HB := n4_; clear n0_ n1_ n2_ n3_ n4_; (try clear hb); (try clear hb2); (try clear hk); (try clear hi))))
          first | go_roundg kj92 | (try subst hji97; go_roundg kj92)
          case measure => have := HJ19.out; have := HK2.out; have := HJ92.out; omega
          case rel => exact ⟨(wrap64 (x289_2 + 1)), (by first | rfl | (simp; done) | (simp [*]; done)), H', ⟨by have := HJ19.out; have := HK2.out; have := HJ92.out; omega⟩, ⟨by (with_reducible repeat (first | apply Kd.R_alloc | apply Kd.R_drewN | apply Kd.R_drew)); exact HO_5.out⟩, ⟨by (with_reducible repeat (first | apply Kd.R_alloc | apply Kd.R_drewN | apply Kd.R_drew)); exact HO_23.out⟩, ⟨by (with_reducible repeat (first | apply Kd.R_alloc | apply Kd.R_drewN | apply Kd.R_drew)); exact HO_27.out⟩, ⟨by (with_reducible repeat (first | apply Kd.R_alloc | apply Kd.R_drewN | apply Kd.R_drew)); exact HO_287.out⟩, ⟨by repeat (first | (with_reducible first | exact HB.out | apply below_alloc | apply pw_below_drewN | apply below_drew1) | exact HB.out)⟩⟩
       ·as_aux_lemma =>
        rw [if_neg c90] at H
        have c90b0 : decide (x289_2 < (t390.length : Int)) = false := decide_eq_false c90
        clear c90
        have HC106 := Aside0.mk H
        clear H
        as_aux_lemma =>
        go_upto_region 35 with (fail)
        repeat (go_quiet (fail); go_upto_region 35 with (fail))
        go_cut [340] from 9999 to 9999 (fun v340 wc => ∃ (kq : Nat) (x340_105 : Bool), v340 = .bool x340_105 ∧ Aside0 (laws_FnWheelsTurn.j3 kq t370 t371 t374 t378 t379 t382 t386 t387 x340_105 = some r) ∧ Aside0 (kq ≤ k2) ∧ Aside0 (Kd.R k45 45 wc w.heap.size (fun _ => True) (.slice Ao22 t370.length co22) t370) ∧ Aside0 (Below w.heap.size w wc))
        case first =>
         as_aux_lemma =>
         have H := HC106.out
         clear HC106
         by_cases c107 : t375 = true
         ·subst c107
          have H1 : (laws_FnWheelsTurn.j3 k2 t370 t371 t374 t378 t379 t382 t386 t387 (decide (t374 ≤ 1000000000))) = some r := by rw [if_pos rfl] at H; exact H
          clear H
          have H := H1
          clear H1
          have H' := Aside0.mk H
          clear H
          as_aux_lemma =>
          go_wp2
          repeat (go_quiet (fail); try go_wp2)
          as_aux_lemma =>
          go_meet
          case rel => exact ⟨_, (decide (t374 ≤ 1000000000)), (by first | rfl | (simp; done) | (simp [*]; done)), H', ⟨by have := HJ19.out; have := HK2.out; first | omega | exact Nat.le_refl _⟩, ⟨by (with_reducible repeat (first | apply Kd.R_alloc | apply Kd.R_drewN | apply Kd.R_drew)); exact HO_5.out⟩, ⟨by repeat (first | (with_reducible first | exact HB.out | apply below_alloc | apply pw_below_drewN | apply below_drew1) | exact HB.out)⟩⟩
         ·replace c107 := Bool.eq_false_iff.mpr c107
          subst c107
          have H1 : (laws_FnWheelsTurn.j3 k2 t370 t371 t374 t378 t379 t382 t386 t387 false) = some r := by rw [if_neg (show ¬ (false = true) by decide)] at H; exact H
          clear H
          have H := H1
          clear H1
          have H' := Aside0.mk H
          clear H
          as_aux_lemma =>
          go_wp2
          repeat (go_quiet (fail); try go_wp2)
          as_aux_lemma =>
          go_meet
          case rel => exact ⟨_, (false), (by first | rfl | (simp; done) | (simp [*]; done)), H', ⟨by have := HJ19.out; have := HK2.out; first | omega | exact Nat.le_refl _⟩, ⟨by (with_reducible repeat (first | apply Kd.R_alloc | apply Kd.R_drewN | apply Kd.R_drew)); exact HO_5.out⟩, ⟨by repeat (first | (with_reducible first | exact HB.out | apply below_alloc | apply pw_below_drewN | apply below_drew1) | exact HB.out)⟩⟩
        case rest =>
         as_aux_lemma =>
         clear HC106
         try clear c1
         try clear p2
         try clear c3
         try clear c4
         try clear p4
         try clear q4
         try clear hx4
         try clear c5
         try clear c6
         try clear p6
         try clear c7
         try clear c8
         try clear c9
         try clear c10
         try clear c37
         try clear c37b0
         try clear c37b1
         try clear c37b2
         try clear c38
         try clear c38b0
         try clear c38b1
         try clear c39
         try clear c39b0
         try clear c39b1
         try clear c39b2
         try clear c40
         try clear c40b0
         try clear c40b1
         try clear c41
         try clear c41b0
         try clear c41b1
         try clear c41b2
         try clear p41
         try clear q41
         try clear hx41
         try clear c42
         try clear c42b0
         try clear c42b1
         try clear c42b2
         try clear c43
         try clear c43b0
         try clear c43b1
         try clear c43b2
         try clear c44
         try clear c44b0
         try clear c44b1
         try clear c45
         try clear c45b0
         try clear c45b1
         try clear c45b2
         try clear c47
         try clear c48
         try clear c48b0
         try clear c48b1
         try clear c48b2
         try clear c50
         try clear c51
         try clear c51b0
         try clear c51b1
         try clear c51b2
         try clear c52
         try clear c52b0
         try clear c52b1
         try clear c53
         try clear c53b0
         try clear c53b1
         try clear c53b2
         try clear c54
         try clear c54b0
         try clear c54b1
         try clear c54b2
         try clear c55
         try clear c56
         try clear c57
         try clear c57b0
         try clear c57b1
         try clear c57b2
         try clear c58
         try clear c63
         try clear c63b0
         try clear c63b1
         try clear c63b2
         try clear c64
         try clear p64
         try clear c69
         try clear c69b0
         try clear c69b1
         try clear c69b2
         try clear c74
         try clear c75
         try clear c78
         try clear c79
         try clear c80
         try clear c80b0
         try clear c80b1
         try clear c81
         try clear c81b0
         try clear c81b1
         try clear c82
         try clear c82b0
         try clear c82b1
         try clear c84
         try clear c84b0
         try clear c84b1
         try clear c85
         try clear c85b0
         try clear c90
         try clear c90b0
         try clear c91
         try clear c91b0
         try clear c92
         try clear c92b0
         try clear c94
         try clear c94b0
         try clear c95
         try clear c95b0
         try clear c96
         try clear c96b0
         try clear c98
         try clear c98b0
         try clear c99
         try clear c99b0
         try clear c100
         try clear c100b0
         try clear c101
         try clear c103
         try clear c104
         try clear c107
         try clear hx417_0
         try clear hx418_0
         try clear hx419_0
         try clear p2
         try clear p4
         try clear p41
         try clear p417
         try clear p418
         try clear p419
         try clear p6
         try clear p64
         try clear q4
         try clear q41
         try clear q417
         try clear q418
         try clear q419
         obtain ⟨kq, x340_105, rfl, HA, HJ105, HO_5, HB⟩ := hcut
         cases kq with
         | zero => exact absurd HA.out (by simp [laws_FnWheelsTurn.j3])
         | succ kj105 =>
          have H := HA.out
          clear HA
          simp only [laws_FnWheelsTurn.j3] at H
          have HC108 := Aside0.mk H
          clear H
          go_upto_if 340 with (fail)
          repeat (go_quiet (fail); go_upto_if 340 with (fail))
          go_cut [] from 9999 to 9999 (fun wc => ∃ (kq : Nat), Aside0 (laws_FnWheelsTurn.j4 kq t370 t371 t378 t379 t382 t386 t387 = some r) ∧ Aside0 (kq ≤ kj105) ∧ Aside0 (Kd.R k45 45 wc w.heap.size (fun _ => True) (.slice Ao22 t370.length co22) t370) ∧ Aside0 (Below w.heap.size w wc))
          case first =>
           as_aux_lemma =>
           have H := HC108.out
           clear HC108
           by_cases c109 : x340_105 = true
           ·subst c109
            have H1 : ((impl_RankOfSpoke.f kj105 t370 t374).bind fun bt422 => (if bt422.2 = true then (if bt422.1 = t371 then (laws_FnWheelsTurn.j4 kj105 t370 t371 t378 t379 t382 t386 t387) else (none)) else (none))) = some r := by rw [if_pos rfl] at H; exact H
            clear H
            have H := H1
            clear H1
            replace H := Option.bind_eq_some_iff.mp H
            obtain ⟨⟨t422, t423⟩, A1100, H⟩ := H
            replace H : (if t423 = true then (if t422 = t371 then (laws_FnWheelsTurn.j4 kj105 t370 t371 t378 t379 t382 t386 t387) else (none)) else (none)) = some r := H
            have A110 := Aside0.mk A1100
            clear A1100
            have c111 : t423 = true := Classical.byContradiction fun c111 => by
             replace c111 := Bool.eq_false_iff.mpr c111
             subst c111
             have H1 : (none) = some r := by rw [if_neg (show ¬ (false = true) by decide)] at H; exact H
             clear H
             have H := H1
             clear H1
             exact absurd H (by simp)
            subst c111
            have H1 : (if t422 = t371 then (laws_FnWheelsTurn.j4 kj105 t370 t371 t378 t379 t382 t386 t387) else (none)) = some r := by rw [if_pos rfl] at H; exact H
            clear H
            have H := H1
            clear H1
            have c112 : t422 = t371 := Classical.byContradiction fun c112 => by
             rw [if_neg c112] at H
             exact absurd H (by simp)
            rw [if_pos c112] at H
            have c112b0 : (t422 == t371) = true := beq_iff_eq.mpr c112
            have c112b1 : (t422 != t371) = false := bne_eq_false_iff_eq.mpr c112
            clear c112
            (first | rw [c112b0] | (simp only [i64_w, i32_w]; rw [c112b0]) | skip)
            have H' := Aside0.mk H
            clear H
            as_aux_lemma =>
            go_wp2_with (first | (go_at_call 9; (with_reducible refine (impl_RankOfSpoke.calls kj105 _ _ t370 t374 t422 true _ ?side1 ?side2 A110.out).mono ?_); (case side1 => repeat (first | exact (Kd.R_reads' HO_5.out).2.2 | (with_reducible refine Kd.C_alloc ?_ _) | (with_reducible refine Kd.C_drewN ?_ _) | (with_reducible refine Kd.C_drew ?_))); (case side2 => exact (Kd.R_reads' HO_5.out).2.1); rintro e w113 ⟨rfl, hb⟩; have n0_ := Aside0.mk (Kd.R_below (by (with_reducible repeat (first | apply Kd.R_alloc | apply Kd.R_drewN | apply Kd.R_drew)); exact HO_5.out) hb); have n1_ := Aside0.mk (below_step (by repeat (first | (with_reducible first | exact HB.out | apply below_alloc | apply pw_below_drewN | apply below_drew1) | exact HB.out)) hb); clear HO_5; clear HB; have HO_5 := n0_; have HB := n1_; clear n0_ n1_; (try clear hb); (try clear hb2); (try clear hk); (try clear hi)))
            repeat (go_quiet (first | (go_at_call 9; (with_reducible refine (impl_RankOfSpoke.calls kj105 _ _ t370 t374 t422 true _ ?side1 ?side2 A110.out).mono ?_); (case side1 => repeat (first | exact (Kd.R_reads' HO_5.out).2.2 | (with_reducible refine Kd.C_alloc ?_ _) | (with_reducible refine Kd.C_drewN ?_ _) | (with_reducible refine Kd.C_drew ?_))); (case side2 => exact (Kd.R_reads' HO_5.out).2.1); rintro e w113 ⟨rfl, hb⟩; have n0_ := Aside0.mk (Kd.R_below (by (with_reducible repeat (first | apply Kd.R_alloc | apply Kd.R_drewN | apply Kd.R_drew)); exact HO_5.out) hb); have n1_ := Aside0.mk (below_step (by repeat (first | (with_reducible first | exact HB.out | apply below_alloc | apply pw_below_drewN | apply below_drew1) | exact HB.out)) hb); clear HO_5; clear HB; have HO_5 := n0_; have HB := n1_; clear n0_ n1_; (try clear hb); (try clear hb2); (try clear hk); (try clear hi))); try go_wp2_with (first | (go_at_call 9; (with_reducible refine (impl_RankOfSpoke.calls kj105 _ _ t370 t374 t422 true _ ?side1 ?side2 A110.out).mono ?_); (case side1 => repeat (first | exact (Kd.R_reads' HO_5.out).2.2 | (with_reducible refine Kd.C_alloc ?_ _) | (with_reducible refine Kd.C_drewN ?_ _) | (with_reducible refine Kd.C_drew ?_))); (case side2 => exact (Kd.R_reads' HO_5.out).2.1); rintro e w113 ⟨rfl, hb⟩; have n0_ := Aside0.mk (Kd.R_below (by (with_reducible repeat (first | apply Kd.R_alloc | apply Kd.R_drewN | apply Kd.R_drew)); exact HO_5.out) hb); have n1_ := Aside0.mk (below_step (by repeat (first | (with_reducible first | exact HB.out | apply below_alloc | apply pw_below_drewN | apply below_drew1) | exact HB.out)) hb); clear HO_5; clear HB; have HO_5 := n0_; have HB := n1_; clear n0_ n1_; (try clear hb); (try clear hb2); (try clear hk); (try clear hi))))
            as_aux_lemma =>
            go_meet
            case rel => exact ⟨_, H', ⟨by have := HJ19.out; have := HK2.out; have := HJ105.out; first | omega | exact Nat.le_refl _⟩, ⟨by (with_reducible repeat (first | apply Kd.R_alloc | apply Kd.R_drewN | apply Kd.R_drew)); exact HO_5.out⟩, ⟨by repeat (first | (with_reducible first | exact HB.out | apply below_alloc | apply pw_below_drewN | apply below_drew1) | exact HB.out)⟩⟩
           ·replace c109 := Bool.eq_false_iff.mpr c109
            subst c109
            have H1 : (laws_FnWheelsTurn.j4 kj105 t370 t371 t378 t379 t382 t386 t387) = some r := by rw [if_neg (show ¬ (false = true) by decide)] at H; exact H
            clear H
            have H := H1
            clear H1
            have H' := Aside0.mk H
            clear H
            as_aux_lemma =>
            go_wp2
            repeat (go_quiet (fail); try go_wp2)
            as_aux_lemma =>
            go_meet
            case rel => exact ⟨_, H', ⟨by have := HJ19.out; have := HK2.out; have := HJ105.out; first | omega | exact Nat.le_refl _⟩, ⟨by (with_reducible repeat (first | apply Kd.R_alloc | apply Kd.R_drewN | apply Kd.R_drew)); exact HO_5.out⟩, ⟨by repeat (first | (with_reducible first | exact HB.out | apply below_alloc | apply pw_below_drewN | apply below_drew1) | exact HB.out)⟩⟩
          case rest =>
           as_aux_lemma =>
           clear HC108
           try clear c1
           try clear p2
           try clear c3
           try clear c4
           try clear p4
           try clear q4
           try clear hx4
           try clear c5
           try clear c6
           try clear p6
           try clear c7
           try clear c8
           try clear c9
           try clear c10
           try clear c11
           try clear c37
           try clear c37b0
           try clear c37b1
           try clear c37b2
           try clear c38
           try clear c38b0
           try clear c38b1
           try clear c39
           try clear c39b0
           try clear c39b1
           try clear c39b2
           try clear c40
           try clear c40b0
           try clear c40b1
           try clear c41
           try clear c41b0
           try clear c41b1
           try clear c41b2
           try clear p41
           try clear q41
           try clear hx41
           try clear c42
           try clear c42b0
           try clear c42b1
           try clear c42b2
           try clear c43
           try clear c43b0
           try clear c43b1
           try clear c43b2
           try clear c44
           try clear c44b0
           try clear c44b1
           try clear c45
           try clear c45b0
           try clear c45b1
           try clear c45b2
           try clear c47
           try clear c48
           try clear c48b0
           try clear c48b1
           try clear c48b2
           try clear c50
           try clear c51
           try clear c51b0
           try clear c51b1
           try clear c51b2
           try clear c52
           try clear c52b0
           try clear c52b1
           try clear c53
           try clear c53b0
           try clear c53b1
           try clear c53b2
           try clear c54
           try clear c54b0
           try clear c54b1
           try clear c54b2
           try clear c55
           try clear c56
           try clear c57
           try clear c57b0
           try clear c57b1
           try clear c57b2
           try clear c58
           try clear c63
           try clear c63b0
           try clear c63b1
           try clear c63b2
           try clear c64
           try clear p64
           try clear c69
           try clear c69b0
           try clear c69b1
           try clear c69b2
           try clear c74
           try clear c75
           try clear c78
           try clear c79
           try clear c80
           try clear c80b0
           try clear c80b1
           try clear c81
           try clear c81b0
           try clear c81b1
           try clear c82
           try clear c82b0
           try clear c82b1
           try clear c84
           try clear c84b0
           try clear c84b1
           try clear c85
           try clear c85b0
           try clear c90
           try clear c90b0
           try clear c91
           try clear c91b0
           try clear c92
           try clear c92b0
           try clear c94
           try clear c94b0
           try clear c95
           try clear c95b0
           try clear c96
           try clear c96b0
           try clear c98
           try clear c98b0
           try clear c99
           try clear c99b0
           try clear c100
           try clear c100b0
           try clear c101
           try clear c103
           try clear c104
           try clear c107
           try clear c109
           try clear c111
           try clear c112
           try clear c112b0
           try clear c112b1
           try clear hx417_0
           try clear hx418_0
           try clear hx419_0
           try clear p2
           try clear p4
           try clear p41
           try clear p417
           try clear p418
           try clear p419
           try clear p6
           try clear p64
           try clear q4
           try clear q41
           try clear q417
           try clear q418
           try clear q419
           obtain ⟨kq, HA, HJ107, HO_5, HB⟩ := hcut
           cases kq with
           | zero => exact absurd HA.out (by simp [laws_FnWheelsTurn.j4])
           | succ kj107 =>
            have H := HA.out
            clear HA
            simp only [laws_FnWheelsTurn.j4] at H
            have HC114 := Aside0.mk H
            clear H
            go_upto_if 354 with (fail)
            repeat (go_quiet (fail); go_upto_if 354 with (fail))
            go_cut [] from 9999 to 9999 (fun wc => ∃ (kq : Nat), Aside0 (laws_FnWheelsTurn.j5 kq t370 t371 t382 t386 t387 = some r) ∧ Aside0 (kq ≤ kj107) ∧ Aside0 (Kd.R k45 45 wc w.heap.size (fun _ => True) (.slice Ao22 t370.length co22) t370) ∧ Aside0 (Below w.heap.size w wc))
            case first =>
             as_aux_lemma =>
             have H := HC114.out
             clear HC114
             by_cases c115 : t379 = true
             ·subst c115
              have H1 : ((impl_SpokeOfRank.f kj107 t370 t378).bind fun bt424 => (if bt424.2 = true then (if bt424.1 = t371 then (laws_FnWheelsTurn.j5 kj107 t370 t371 t382 t386 t387) else (none)) else (none))) = some r := by rw [if_pos rfl] at H; exact H
              clear H
              have H := H1
              clear H1
              replace H := Option.bind_eq_some_iff.mp H
              obtain ⟨⟨t424, t425⟩, A1160, H⟩ := H
              replace H : (if t425 = true then (if t424 = t371 then (laws_FnWheelsTurn.j5 kj107 t370 t371 t382 t386 t387) else (none)) else (none)) = some r := H
              have A116 := Aside0.mk A1160
              clear A1160
              have c117 : t425 = true := Classical.byContradiction fun c117 => by
               replace c117 := Bool.eq_false_iff.mpr c117
               subst c117
               have H1 : (none) = some r := by rw [if_neg (show ¬ (false = true) by decide)] at H; exact H
               clear H
               have H := H1
               clear H1
               exact absurd H (by simp)
              subst c117
              have H1 : (if t424 = t371 then (laws_FnWheelsTurn.j5 kj107 t370 t371 t382 t386 t387) else (none)) = some r := by rw [if_pos rfl] at H; exact H
              clear H
              have H := H1
              clear H1
              have c118 : t424 = t371 := Classical.byContradiction fun c118 => by
               rw [if_neg c118] at H
               exact absurd H (by simp)
              rw [if_pos c118] at H
              have c118b0 : (t424 == t371) = true := beq_iff_eq.mpr c118
              have c118b1 : (t424 != t371) = false := bne_eq_false_iff_eq.mpr c118
              clear c118
              (first | rw [c118b0] | (simp only [i64_w, i32_w]; rw [c118b0]) | skip)
              have H' := Aside0.mk H
              clear H
              as_aux_lemma =>
              go_wp2_with (first | (go_at_call 7; (with_reducible refine (impl_SpokeOfRank.calls kj107 _ _ t370 t378 t424 true _ ?side1 ?side2 A116.out).mono ?_); (case side1 => repeat (first | exact (Kd.R_reads' HO_5.out).2.2 | (with_reducible refine Kd.C_alloc ?_ _) | (with_reducible refine Kd.C_drewN ?_ _) | (with_reducible refine Kd.C_drew ?_))); (case side2 => exact (Kd.R_reads' HO_5.out).2.1); rintro e w119 ⟨rfl, hb⟩; have n0_ := Aside0.mk (Kd.R_below (by (with_reducible repeat (first | apply Kd.R_alloc | apply Kd.R_drewN | apply Kd.R_drew)); exact HO_5.out) hb); have n1_ := Aside0.mk (below_step (by repeat (first | (with_reducible first | exact HB.out | apply below_alloc | apply pw_below_drewN | apply below_drew1) | exact HB.out)) hb); clear HO_5; clear HB; have HO_5 := n0_; have HB := n1_; clear n0_ n1_; (try clear hb); (try clear hb2); (try clear hk); (try clear hi)))
              repeat (go_quiet (first | (go_at_call 7; (with_reducible refine (impl_SpokeOfRank.calls kj107 _ _ t370 t378 t424 true _ ?side1 ?side2 A116.out).mono ?_); (case side1 => repeat (first | exact (Kd.R_reads' HO_5.out).2.2 | (with_reducible refine Kd.C_alloc ?_ _) | (with_reducible refine Kd.C_drewN ?_ _) | (with_reducible refine Kd.C_drew ?_))); (case side2 => exact (Kd.R_reads' HO_5.out).2.1); rintro e w119 ⟨rfl, hb⟩; have n0_ := Aside0.mk (Kd.R_below (by (with_reducible repeat (first | apply Kd.R_alloc | apply Kd.R_drewN | apply Kd.R_drew)); exact HO_5.out) hb); have n1_ := Aside0.mk (below_step (by repeat (first | (with_reducible first | exact HB.out | apply below_alloc | apply pw_below_drewN | apply below_drew1) | exact HB.out)) hb); clear HO_5; clear HB; have HO_5 := n0_; have HB := n1_; clear n0_ n1_; (try clear hb); (try clear hb2); (try clear hk); (try clear hi))); try go_wp2_with (first | (go_at_call 7; (with_reducible refine (impl_SpokeOfRank.calls kj107 _ _ t370 t378 t424 true _ ?side1 ?side2 A116.out).mono ?_); (case side1 => repeat (first | exact (Kd.R_reads' HO_5.out).2.2 | (with_reducible refine Kd.C_alloc ?_ _) | (with_reducible refine Kd.C_drewN ?_ _) | (with_reducible refine Kd.C_drew ?_))); (case side2 => exact (Kd.R_reads' HO_5.out).2.1); rintro e w119 ⟨rfl, hb⟩; have n0_ := Aside0.mk (Kd.R_below (by (with_reducible repeat (first | apply Kd.R_alloc | apply Kd.R_drewN | apply Kd.R_drew)); exact HO_5.out) hb); have n1_ := Aside0.mk (below_step (by repeat (first | (with_reducible first | exact HB.out | apply below_alloc | apply pw_below_drewN | apply below_drew1) | exact HB.out)) hb); clear HO_5; clear HB; have HO_5 := n0_; have HB := n1_; clear n0_ n1_; (try clear hb); (try clear hb2); (try clear hk); (try clear hi))))
              as_aux_lemma =>
              go_meet
              case rel => exact ⟨_, H', ⟨by have := HJ19.out; have := HK2.out; have := HJ105.out; have := HJ107.out; first | omega | exact Nat.le_refl _⟩, ⟨by (with_reducible repeat (first | apply Kd.R_alloc | apply Kd.R_drewN | apply Kd.R_drew)); exact HO_5.out⟩, ⟨by repeat (first | (with_reducible first | exact HB.out | apply below_alloc | apply pw_below_drewN | apply below_drew1) | exact HB.out)⟩⟩
             ·replace c115 := Bool.eq_false_iff.mpr c115
              subst c115
              have H1 : (laws_FnWheelsTurn.j5 kj107 t370 t371 t382 t386 t387) = some r := by rw [if_neg (show ¬ (false = true) by decide)] at H; exact H
              clear H
              have H := H1
              clear H1
              have H' := Aside0.mk H
              clear H
              as_aux_lemma =>
              go_wp2
              repeat (go_quiet (fail); try go_wp2)
              as_aux_lemma =>
              go_meet
              case rel => exact ⟨_, H', ⟨by have := HJ19.out; have := HK2.out; have := HJ105.out; have := HJ107.out; first | omega | exact Nat.le_refl _⟩, ⟨by (with_reducible repeat (first | apply Kd.R_alloc | apply Kd.R_drewN | apply Kd.R_drew)); exact HO_5.out⟩, ⟨by repeat (first | (with_reducible first | exact HB.out | apply below_alloc | apply pw_below_drewN | apply below_drew1) | exact HB.out)⟩⟩
            case rest =>
             as_aux_lemma =>
             clear HC114
             try clear c1
             try clear p2
             try clear c3
             try clear c4
             try clear p4
             try clear q4
             try clear hx4
             try clear c5
             try clear c6
             try clear p6
             try clear c7
             try clear c8
             try clear c9
             try clear c10
             try clear c11
             try clear c37
             try clear c37b0
             try clear c37b1
             try clear c37b2
             try clear c38
             try clear c38b0
             try clear c38b1
             try clear c39
             try clear c39b0
             try clear c39b1
             try clear c39b2
             try clear c40
             try clear c40b0
             try clear c40b1
             try clear c41
             try clear c41b0
             try clear c41b1
             try clear c41b2
             try clear p41
             try clear q41
             try clear hx41
             try clear c42
             try clear c42b0
             try clear c42b1
             try clear c42b2
             try clear c43
             try clear c43b0
             try clear c43b1
             try clear c43b2
             try clear c44
             try clear c44b0
             try clear c44b1
             try clear c45
             try clear c45b0
             try clear c45b1
             try clear c45b2
             try clear c47
             try clear c48
             try clear c48b0
             try clear c48b1
             try clear c48b2
             try clear c50
             try clear c51
             try clear c51b0
             try clear c51b1
             try clear c51b2
             try clear c52
             try clear c52b0
             try clear c52b1
             try clear c53
             try clear c53b0
             try clear c53b1
             try clear c53b2
             try clear c54
             try clear c54b0
             try clear c54b1
             try clear c54b2
             try clear c55
             try clear c56
             try clear c57
             try clear c57b0
             try clear c57b1
             try clear c57b2
             try clear c58
             try clear c63
             try clear c63b0
             try clear c63b1
             try clear c63b2
             try clear c64
             try clear p64
             try clear c69
             try clear c69b0
             try clear c69b1
             try clear c69b2
             try clear c74
             try clear c75
             try clear c78
             try clear c79
             try clear c80
             try clear c80b0
             try clear c80b1
             try clear c81
             try clear c81b0
             try clear c81b1
             try clear c82
             try clear c82b0
             try clear c82b1
             try clear c84
             try clear c84b0
             try clear c84b1
             try clear c85
             try clear c85b0
             try clear c90
             try clear c90b0
             try clear c91
             try clear c91b0
             try clear c92
             try clear c92b0
             try clear c94
             try clear c94b0
             try clear c95
             try clear c95b0
             try clear c96
             try clear c96b0
             try clear c98
             try clear c98b0
             try clear c99
             try clear c99b0
             try clear c100
             try clear c100b0
             try clear c101
             try clear c103
             try clear c104
             try clear c107
             try clear c109
             try clear c111
             try clear c112
             try clear c112b0
             try clear c112b1
             try clear c115
             try clear c117
             try clear c118
             try clear c118b0
             try clear c118b1
             try clear hx417_0
             try clear hx418_0
             try clear hx419_0
             try clear p2
             try clear p4
             try clear p41
             try clear p417
             try clear p418
             try clear p419
             try clear p6
             try clear p64
             try clear q4
             try clear q41
             try clear q417
             try clear q418
             try clear q419
             obtain ⟨kq, HA, HJ113, HO_5, HB⟩ := hcut
             cases kq with
             | zero => exact absurd HA.out (by simp [laws_FnWheelsTurn.j5])
             | succ kj113 =>
              have H := HA.out
              clear HA
              simp only [laws_FnWheelsTurn.j5] at H
              by_cases c120 : t387 = true
              ·subst c120
               have H1 : (if (wrap64 (t386 - t371)) < 0 then (laws_FnWheelsTurn.j6 kj113 t370 t371 t382 t386 (wrap64 (-(wrap64 (t386 - t371))))) else (laws_FnWheelsTurn.j6 kj113 t370 t371 t382 t386 (wrap64 (t386 - t371)))) = some r := by rw [if_pos rfl] at H; exact H
               clear H
               have H := H1
               clear H1
               have HC121 := Aside0.mk H
               clear H
               go_upto_if 373 with (fail)
               repeat (go_quiet (fail); go_upto_if 373 with (fail))
               go_cut [47] (fun v47 wc => ∃ (kq : Nat) (x47_120 : Int), v47 = .int .i64 x47_120 ∧ Aside0 (laws_FnWheelsTurn.j6 kq t370 t371 t382 t386 x47_120 = some r) ∧ Aside0 (kq ≤ kj113) ∧ Aside0 (Kd.R k45 45 wc w.heap.size (fun _ => True) (.slice Ao22 t370.length co22) t370) ∧ Aside0 (Below w.heap.size w wc))
               case first =>
                as_aux_lemma =>
                have H := HC121.out
                clear HC121
                by_cases c122 : (wrap64 (t386 - t371)) < 0
                ·as_aux_lemma =>
                 rw [if_pos c122] at H
                 have c122b0 : decide ((wrap64 (t386 - t371)) < 0) = true := decide_eq_true c122
                 clear c122
                 (first | rw [c122b0] | (simp only [i64_w, i32_w]; rw [c122b0]) | skip)
                 have H' := Aside0.mk H
                 clear H
                 as_aux_lemma =>
                 go_wp2
                 repeat (go_quiet (fail); try go_wp2)
                 as_aux_lemma =>
                 go_meet
                 case rel => exact ⟨_, (wrap64 (-(wrap64 (t386 - t371)))), (by first | rfl | (simp; done) | (simp [*]; done)), H', ⟨by have := HJ19.out; have := HK2.out; have := HJ105.out; have := HJ107.out; have := HJ113.out; first | omega | exact Nat.le_refl _⟩, ⟨by (with_reducible repeat (first | apply Kd.R_alloc | apply Kd.R_drewN | apply Kd.R_drew)); exact HO_5.out⟩, ⟨by repeat (first | (with_reducible first | exact HB.out | apply below_alloc | apply pw_below_drewN | apply below_drew1) | exact HB.out)⟩⟩
                ·as_aux_lemma =>
                 rw [if_neg c122] at H
                 have c122b0 : decide ((wrap64 (t386 - t371)) < 0) = false := decide_eq_false c122
                 clear c122
                 (first | rw [c122b0] | (simp only [i64_w, i32_w]; rw [c122b0]) | skip)
                 have H' := Aside0.mk H
                 clear H
                 as_aux_lemma =>
                 go_wp2
                 repeat (go_quiet (fail); try go_wp2)
                 as_aux_lemma =>
                 go_meet
                 case rel => exact ⟨_, (wrap64 (t386 - t371)), (by first | rfl | (simp; done) | (simp [*]; done)), H', ⟨by have := HJ19.out; have := HK2.out; have := HJ105.out; have := HJ107.out; have := HJ113.out; first | omega | exact Nat.le_refl _⟩, ⟨by (with_reducible repeat (first | apply Kd.R_alloc | apply Kd.R_drewN | apply Kd.R_drew)); exact HO_5.out⟩, ⟨by repeat (first | (with_reducible first | exact HB.out | apply below_alloc | apply pw_below_drewN | apply below_drew1) | exact HB.out)⟩⟩
               case rest =>
                as_aux_lemma =>
                clear HC121
                try clear c1
                try clear p2
                try clear c3
                try clear c4
                try clear p4
                try clear q4
                try clear hx4
                try clear c5
                try clear c6
                try clear p6
                try clear c7
                try clear c8
                try clear c9
                try clear c10
                try clear c11
                try clear c12
                try clear c37
                try clear c37b0
                try clear c37b1
                try clear c37b2
                try clear c38
                try clear c38b0
                try clear c38b1
                try clear c39
                try clear c39b0
                try clear c39b1
                try clear c39b2
                try clear c40
                try clear c40b0
                try clear c40b1
                try clear c41
                try clear c41b0
                try clear c41b1
                try clear c41b2
                try clear p41
                try clear q41
                try clear hx41
                try clear c42
                try clear c42b0
                try clear c42b1
                try clear c42b2
                try clear c43
                try clear c43b0
                try clear c43b1
                try clear c43b2
                try clear c44
                try clear c44b0
                try clear c44b1
                try clear c45
                try clear c45b0
                try clear c45b1
                try clear c45b2
                try clear c47
                try clear c48
                try clear c48b0
                try clear c48b1
                try clear c48b2
                try clear c50
                try clear c51
                try clear c51b0
                try clear c51b1
                try clear c51b2
                try clear c52
                try clear c52b0
                try clear c52b1
                try clear c53
                try clear c53b0
                try clear c53b1
                try clear c53b2
                try clear c54
                try clear c54b0
                try clear c54b1
                try clear c54b2
                try clear c55
                try clear c56
                try clear c57
                try clear c57b0
                try clear c57b1
                try clear c57b2
                try clear c58
                try clear c63
                try clear c63b0
                try clear c63b1
                try clear c63b2
                try clear c64
                try clear p64
                try clear c69
                try clear c69b0
                try clear c69b1
                try clear c69b2
                try clear c74
                try clear c75
                try clear c78
                try clear c79
                try clear c80
                try clear c80b0
                try clear c80b1
                try clear c81
                try clear c81b0
                try clear c81b1
                try clear c82
                try clear c82b0
                try clear c82b1
                try clear c84
                try clear c84b0
                try clear c84b1
                try clear c85
                try clear c85b0
                try clear c90
                try clear c90b0
                try clear c91
                try clear c91b0
                try clear c92
                try clear c92b0
                try clear c94
                try clear c94b0
                try clear c95
                try clear c95b0
                try clear c96
                try clear c96b0
                try clear c98
                try clear c98b0
                try clear c99
                try clear c99b0
                try clear c100
                try clear c100b0
                try clear c101
                try clear c103
                try clear c104
                try clear c107
                try clear c109
                try clear c111
                try clear c112
                try clear c112b0
                try clear c112b1
                try clear c115
                try clear c117
                try clear c118
                try clear c118b0
                try clear c118b1
                try clear c120
                try clear c122
                try clear c122b0
                try clear hx417_0
                try clear hx418_0
                try clear hx419_0
                try clear p2
                try clear p4
                try clear p41
                try clear p417
                try clear p418
                try clear p419
                try clear p6
                try clear p64
                try clear q4
                try clear q41
                try clear q417
                try clear q418
                try clear q419
                obtain ⟨kq, x47_120, rfl, HA, HJ120, HO_5, HB⟩ := hcut
                cases kq with
                | zero => exact absurd HA.out (by simp [laws_FnWheelsTurn.j6])
                | succ kj120 =>
                 have H := HA.out
                 clear HA
                 simp only [laws_FnWheelsTurn.j6] at H
                 have HC123 := Aside0.mk H
                 clear H
                 as_aux_lemma =>
                 go_upto_region 47 with (fail)
                 repeat (go_quiet (fail); go_upto_region 47 with (fail))
                 go_cut [395] from 9999 to 9999 (fun v395 wc => ∃ (kq : Nat) (x395_122 : Bool), v395 = .bool x395_122 ∧ Aside0 (laws_FnWheelsTurn.j7 kq t370 t371 t382 t386 x47_120 x395_122 = some r) ∧ Aside0 (kq ≤ kj120) ∧ Aside0 (Kd.R k45 45 wc w.heap.size (fun _ => True) (.slice Ao22 t370.length co22) t370) ∧ Aside0 (Below w.heap.size w wc))
                 case first =>
                  as_aux_lemma =>
                  have H := HC123.out
                  clear HC123
                  by_cases c124 : (t382 != (x47_120 == 0)) = true
                  ·as_aux_lemma =>
                   rw [if_pos c124] at H
                   have c124b0 : (t382 != (x47_120 == 0)) = true := c124
                   (try (have c124b1 : decide (t382 = (x47_120 == 0)) = false := by simpa using c124))
                   (try (have c124b2 : (t382 == (x47_120 == 0)) = false := by simpa using c124))
                   (try (have c124b3 : ¬ (t382 = (x47_120 == 0)) := by simpa using c124))
                   clear c124
                   (first | rw [c124b0] | (simp only [i64_w, i32_w]; rw [c124b0]) | skip)
                   have H' := Aside0.mk H
                   clear H
                   as_aux_lemma =>
                   go_wp2
                   repeat (go_quiet (fail); try go_wp2)
                   as_aux_lemma =>
                   go_meet
                   case rel => exact ⟨_, (true), (by first | rfl | (simp; done) | (simp [*]; done)), H', ⟨by have := HJ19.out; have := HK2.out; have := HJ105.out; have := HJ107.out; have := HJ113.out; have := HJ120.out; first | omega | exact Nat.le_refl _⟩, ⟨by (with_reducible repeat (first | apply Kd.R_alloc | apply Kd.R_drewN | apply Kd.R_drew)); exact HO_5.out⟩, ⟨by repeat (first | (with_reducible first | exact HB.out | apply below_alloc | apply pw_below_drewN | apply below_drew1) | exact HB.out)⟩⟩
                  ·as_aux_lemma =>
                   rw [if_neg c124] at H
                   have c124b0 : (t382 != (x47_120 == 0)) = false := by simpa using c124
                   (try (have c124b1 : decide (t382 = (x47_120 == 0)) = true := by simpa using c124))
                   (try (have c124b2 : (t382 == (x47_120 == 0)) = true := by simpa using c124))
                   clear c124
                   (first | rw [c124b0] | (simp only [i64_w, i32_w]; rw [c124b0]) | skip)
                   by_cases c125 : (wrap64 (t371 + x47_120)) ≤ 1000000000
                   ·as_aux_lemma =>
                    rw [if_pos c125] at H
                    have c125b0 : decide ((wrap64 (t371 + x47_120)) ≤ 1000000000) = true := decide_eq_true c125
                    clear c125
                    by_cases c126 : (wrap64 (t371 - x47_120)) ≥ 0
                    ·as_aux_lemma =>
                     rw [if_pos c126] at H
                     have c126b0 : decide (0 ≤ (wrap64 (t371 - x47_120))) = true := decide_eq_true c126
                     clear c126
                     have H' := Aside0.mk H
                     clear H
                     as_aux_lemma =>
                     go_wp2
                     repeat (go_quiet (fail); try go_wp2)
                     as_aux_lemma =>
                     go_meet
                     case rel => exact ⟨_, (decide (x47_120 > 0)), (by first | rfl | (simp; done) | (simp [*]; done)), H', ⟨by have := HJ19.out; have := HK2.out; have := HJ105.out; have := HJ107.out; have := HJ113.out; have := HJ120.out; first | omega | exact Nat.le_refl _⟩, ⟨by (with_reducible repeat (first | apply Kd.R_alloc | apply Kd.R_drewN | apply Kd.R_drew)); exact HO_5.out⟩, ⟨by repeat (first | (with_reducible first | exact HB.out | apply below_alloc | apply pw_below_drewN | apply below_drew1) | exact HB.out)⟩⟩
                    ·as_aux_lemma =>
                     rw [if_neg c126] at H
                     have c126b0 : decide (0 ≤ (wrap64 (t371 - x47_120))) = false := decide_eq_false c126
                     clear c126
                     have H' := Aside0.mk H
                     clear H
                     as_aux_lemma =>
                     go_wp2
                     repeat (go_quiet (fail); try go_wp2)
                     as_aux_lemma =>
                     go_meet
                     case rel => exact ⟨_, (false), (by first | rfl | (simp; done) | (simp [*]; done)), H', ⟨by have := HJ19.out; have := HK2.out; have := HJ105.out; have := HJ107.out; have := HJ113.out; have := HJ120.out; first | omega | exact Nat.le_refl _⟩, ⟨by (with_reducible repeat (first | apply Kd.R_alloc | apply Kd.R_drewN | apply Kd.R_drew)); exact HO_5.out⟩, ⟨by repeat (first | (with_reducible first | exact HB.out | apply below_alloc | apply pw_below_drewN | apply below_drew1) | exact HB.out)⟩⟩
                   ·as_aux_lemma =>
                    rw [if_neg c125] at H
                    have c125b0 : decide ((wrap64 (t371 + x47_120)) ≤ 1000000000) = false := decide_eq_false c125
                    clear c125
                    have H' := Aside0.mk H
                    clear H
                    as_aux_lemma =>
                    go_wp2
                    repeat (go_quiet (fail); try go_wp2)
                    as_aux_lemma =>
                    go_meet
                    case rel => exact ⟨_, (false), (by first | rfl | (simp; done) | (simp [*]; done)), H', ⟨by have := HJ19.out; have := HK2.out; have := HJ105.out; have := HJ107.out; have := HJ113.out; have := HJ120.out; first | omega | exact Nat.le_refl _⟩, ⟨by (with_reducible repeat (first | apply Kd.R_alloc | apply Kd.R_drewN | apply Kd.R_drew)); exact HO_5.out⟩, ⟨by repeat (first | (with_reducible first | exact HB.out | apply below_alloc | apply pw_below_drewN | apply below_drew1) | exact HB.out)⟩⟩
                 case rest =>
                  as_aux_lemma =>
                  clear HC123
                  try clear c1
                  try clear p2
                  try clear c3
                  try clear c4
                  try clear p4
                  try clear q4
                  try clear hx4
                  try clear c5
                  try clear c6
                  try clear p6
                  try clear c7
                  try clear c8
                  try clear c9
                  try clear c10
                  try clear c11
                  try clear c12
                  try clear c37
                  try clear c37b0
                  try clear c37b1
                  try clear c37b2
                  try clear c38
                  try clear c38b0
                  try clear c38b1
                  try clear c39
                  try clear c39b0
                  try clear c39b1
                  try clear c39b2
                  try clear c40
                  try clear c40b0
                  try clear c40b1
                  try clear c41
                  try clear c41b0
                  try clear c41b1
                  try clear c41b2
                  try clear p41
                  try clear q41
                  try clear hx41
                  try clear c42
                  try clear c42b0
                  try clear c42b1
                  try clear c42b2
                  try clear c43
                  try clear c43b0
                  try clear c43b1
                  try clear c43b2
                  try clear c44
                  try clear c44b0
                  try clear c44b1
                  try clear c45
                  try clear c45b0
                  try clear c45b1
                  try clear c45b2
                  try clear c47
                  try clear c48
                  try clear c48b0
                  try clear c48b1
                  try clear c48b2
                  try clear c50
                  try clear c51
                  try clear c51b0
                  try clear c51b1
                  try clear c51b2
                  try clear c52
                  try clear c52b0
                  try clear c52b1
                  try clear c53
                  try clear c53b0
                  try clear c53b1
                  try clear c53b2
                  try clear c54
                  try clear c54b0
                  try clear c54b1
                  try clear c54b2
                  try clear c55
                  try clear c56
                  try clear c57
                  try clear c57b0
                  try clear c57b1
                  try clear c57b2
                  try clear c58
                  try clear c63
                  try clear c63b0
                  try clear c63b1
                  try clear c63b2
                  try clear c64
                  try clear p64
                  try clear c69
                  try clear c69b0
                  try clear c69b1
                  try clear c69b2
                  try clear c74
                  try clear c75
                  try clear c78
                  try clear c79
                  try clear c80
                  try clear c80b0
                  try clear c80b1
                  try clear c81
                  try clear c81b0
                  try clear c81b1
                  try clear c82
                  try clear c82b0
                  try clear c82b1
                  try clear c84
                  try clear c84b0
                  try clear c84b1
                  try clear c85
                  try clear c85b0
                  try clear c90
                  try clear c90b0
                  try clear c91
                  try clear c91b0
                  try clear c92
                  try clear c92b0
                  try clear c94
                  try clear c94b0
                  try clear c95
                  try clear c95b0
                  try clear c96
                  try clear c96b0
                  try clear c98
                  try clear c98b0
                  try clear c99
                  try clear c99b0
                  try clear c100
                  try clear c100b0
                  try clear c101
                  try clear c103
                  try clear c104
                  try clear c107
                  try clear c109
                  try clear c111
                  try clear c112
                  try clear c112b0
                  try clear c112b1
                  try clear c115
                  try clear c117
                  try clear c118
                  try clear c118b0
                  try clear c118b1
                  try clear c120
                  try clear c122
                  try clear c122b0
                  try clear c124
                  try clear c124b0
                  try clear c124b1
                  try clear c124b2
                  try clear c125
                  try clear c125b0
                  try clear c126
                  try clear c126b0
                  try clear hx417_0
                  try clear hx418_0
                  try clear hx419_0
                  try clear p2
                  try clear p4
                  try clear p41
                  try clear p417
                  try clear p418
                  try clear p419
                  try clear p6
                  try clear p64
                  try clear q4
                  try clear q41
                  try clear q417
                  try clear q418
                  try clear q419
                  obtain ⟨kq, x395_122, rfl, HA, HJ122, HO_5, HB⟩ := hcut
                  cases kq with
                  | zero => exact absurd HA.out (by simp [laws_FnWheelsTurn.j7])
                  | succ kj122 =>
                   have H := HA.out
                   clear HA
                   simp only [laws_FnWheelsTurn.j7] at H
                   by_cases c127 : x395_122 = true
                   ·subst c127
                    have H1 : ((impl_IsSpoke.f kj122 t370 (wrap64 (t371 - x47_120))).bind fun bt426 => ((impl_IsSpoke.f kj122 t370 (wrap64 (t371 + x47_120))).bind fun bt428 => (if t382 = true then (none) else (if bt426.2 = true then (if bt428.2 = true then (if bt426.1 = true then (if t386 > t371 then (none) else (some true)) else (if bt428.1 = true then (if t386 > t371 then (some true) else (some true)) else (none))) else (none)) else (none))))) = some r := by rw [if_pos rfl] at H; exact H
                    clear H
                    have H := H1
                    clear H1
                    replace H := Option.bind_eq_some_iff.mp H
                    obtain ⟨⟨t426, t427⟩, A1280, H⟩ := H
                    replace H : ((impl_IsSpoke.f kj122 t370 (wrap64 (t371 + x47_120))).bind fun bt428 => (if t382 = true then (none) else (if t427 = true then (if bt428.2 = true then (if t426 = true then (if t386 > t371 then (none) else (some true)) else (if bt428.1 = true then (if t386 > t371 then (some true) else (some true)) else (none))) else (none)) else (none)))) = some r := H
                    have A128 := Aside0.mk A1280
                    clear A1280
                    replace H := Option.bind_eq_some_iff.mp H
                    obtain ⟨⟨t428, t429⟩, A1290, H⟩ := H
                    replace H : (if t382 = true then (none) else (if t427 = true then (if t429 = true then (if t426 = true then (if t386 > t371 then (none) else (some true)) else (if t428 = true then (if t386 > t371 then (some true) else (some true)) else (none))) else (none)) else (none))) = some r := H
                    have A129 := Aside0.mk A1290
                    clear A1290
                    have c130 : ¬ (t382 = true) := fun c130 => by
                     subst c130
                     have H1 : (none) = some r := by rw [if_pos rfl] at H; exact H
                     clear H
                     have H := H1
                     clear H1
                     exact absurd H (by simp)
                    replace c130 := Bool.eq_false_iff.mpr c130
                    subst c130
                    have H1 : (if t427 = true then (if t429 = true then (if t426 = true then (if t386 > t371 then (none) else (some true)) else (if t428 = true then (if t386 > t371 then (some true) else (some true)) else (none))) else (none)) else (none)) = some r := by rw [if_neg (show ¬ (false = true) by decide)] at H; exact H
                    clear H
                    have H := H1
                    clear H1
                    have c131 : t427 = true := Classical.byContradiction fun c131 => by
                     replace c131 := Bool.eq_false_iff.mpr c131
                     subst c131
                     have H1 : (none) = some r := by rw [if_neg (show ¬ (false = true) by decide)] at H; exact H
                     clear H
                     have H := H1
                     clear H1
                     exact absurd H (by simp)
                    subst c131
                    have H1 : (if t429 = true then (if t426 = true then (if t386 > t371 then (none) else (some true)) else (if t428 = true then (if t386 > t371 then (some true) else (some true)) else (none))) else (none)) = some r := by rw [if_pos rfl] at H; exact H
                    clear H
                    have H := H1
                    clear H1
                    have c132 : t429 = true := Classical.byContradiction fun c132 => by
                     replace c132 := Bool.eq_false_iff.mpr c132
                     subst c132
                     have H1 : (none) = some r := by rw [if_neg (show ¬ (false = true) by decide)] at H; exact H
                     clear H
                     have H := H1
                     clear H1
                     exact absurd H (by simp)
                    subst c132
                    have H1 : (if t426 = true then (if t386 > t371 then (none) else (some true)) else (if t428 = true then (if t386 > t371 then (some true) else (some true)) else (none))) = some r := by rw [if_pos rfl] at H; exact H
                    clear H
                    have H := H1
                    clear H1
                    by_cases c133 : t426 = true
                    ·subst c133
                     have H1 : (if t386 > t371 then (none) else (some true)) = some r := by rw [if_pos rfl] at H; exact H
                     clear H
                     have H := H1
                     clear H1
                     have c134 : ¬ (t386 > t371) := fun c134 => by
                      rw [if_pos c134] at H
                      exact absurd H (by simp)
                     rw [if_neg c134] at H
                     have c134b0 : decide (t371 < t386) = false := decide_eq_false c134
                     clear c134
                     obtain rfl := Option.some.inj H
                     as_aux_lemma =>
                     go_wp2_with (first | (go_at_call 11; (with_reducible refine (impl_IsSpoke.calls kj122 _ _ t370 (wrap64 (t371 - x47_120)) true true _ ?side1 ?side2 A128.out).mono ?_); (case side1 => repeat (first | exact (Kd.R_reads' HO_5.out).2.2 | (with_reducible refine Kd.C_alloc ?_ _) | (with_reducible refine Kd.C_drewN ?_ _) | (with_reducible refine Kd.C_drew ?_))); (case side2 => exact (Kd.R_reads' HO_5.out).2.1); rintro e w135 ⟨rfl, hb⟩; have n0_ := Aside0.mk (Kd.R_below (by (with_reducible repeat (first | apply Kd.R_alloc | apply Kd.R_drewN | apply Kd.R_drew)); exact HO_5.out) hb); have n1_ := Aside0.mk (below_step (by repeat (first | (with_reducible first | exact HB.out | apply below_alloc | apply pw_below_drewN | apply below_drew1) | exact HB.out)) hb); clear HO_5; clear HB; have HO_5 := n0_; have HB := n1_; clear n0_ n1_; (try clear hb); (try clear hb2); (try clear hk); (try clear hi)))
                     as_aux_lemma =>
                     go_wp2_with (first | (go_at_call 11; (with_reducible refine (impl_IsSpoke.calls kj122 _ _ t370 (wrap64 (t371 + x47_120)) t428 true _ ?side1 ?side2 A129.out).mono ?_); (case side1 => repeat (first | exact (Kd.R_reads' HO_5.out).2.2 | (with_reducible refine Kd.C_alloc ?_ _) | (with_reducible refine Kd.C_drewN ?_ _) | (with_reducible refine Kd.C_drew ?_))); (case side2 => exact (Kd.R_reads' HO_5.out).2.1); rintro e w136 ⟨rfl, hb⟩; have n0_ := Aside0.mk (Kd.R_below (by (with_reducible repeat (first | apply Kd.R_alloc | apply Kd.R_drewN | apply Kd.R_drew)); exact HO_5.out) hb); have n1_ := Aside0.mk (below_step (by repeat (first | (with_reducible first | exact HB.out | apply below_alloc | apply pw_below_drewN | apply below_drew1) | exact HB.out)) hb); clear HO_5; clear HB; have HO_5 := n0_; have HB := n1_; clear n0_ n1_; (try clear hb); (try clear hb2); (try clear hk); (try clear hi)))
                     repeat (go_quiet (first | (go_at_call 11; (with_reducible refine (impl_IsSpoke.calls kj122 _ _ t370 (wrap64 (t371 - x47_120)) true true _ ?side1 ?side2 A128.out).mono ?_); (case side1 => repeat (first | exact (Kd.R_reads' HO_5.out).2.2 | (with_reducible refine Kd.C_alloc ?_ _) | (with_reducible refine Kd.C_drewN ?_ _) | (with_reducible refine Kd.C_drew ?_))); (case side2 => exact (Kd.R_reads' HO_5.out).2.1); rintro e w135 ⟨rfl, hb⟩; have n0_ := Aside0.mk (Kd.R_below (by (with_reducible repeat (first | apply Kd.R_alloc | apply Kd.R_drewN | apply Kd.R_drew)); exact HO_5.out) hb); have n1_ := Aside0.mk (below_step (by repeat (first | (with_reducible first | exact HB.out | apply below_alloc | apply pw_below_drewN | apply below_drew1) | exact HB.out)) hb); clear HO_5; clear HB; have HO_5 := n0_; have HB := n1_; clear n0_ n1_; (try clear hb); (try clear hb2); (try clear hk); (try clear hi)) | (go_at_call 11; (with_reducible refine (impl_IsSpoke.calls kj122 _ _ t370 (wrap64 (t371 + x47_120)) t428 true _ ?side1 ?side2 A129.out).mono ?_); (case side1 => repeat (first | exact (Kd.R_reads' HO_5.out).2.2 | (with_reducible refine Kd.C_alloc ?_ _) | (with_reducible refine Kd.C_drewN ?_ _) | (with_reducible refine Kd.C_drew ?_))); (case side2 => exact (Kd.R_reads' HO_5.out).2.1); rintro e w136 ⟨rfl, hb⟩; have n0_ := Aside0.mk (Kd.R_below (by (with_reducible repeat (first | apply Kd.R_alloc | apply Kd.R_drewN | apply Kd.R_drew)); exact HO_5.out) hb); have n1_ := Aside0.mk (below_step (by repeat (first | (with_reducible first | exact HB.out | apply below_alloc | apply pw_below_drewN | apply below_drew1) | exact HB.out)) hb); clear HO_5; clear HB; have HO_5 := n0_; have HB := n1_; clear n0_ n1_; (try clear hb); (try clear hb2); (try clear hk); (try clear hi))); try go_wp2_with (first | (go_at_call 11; (with_reducible refine (impl_IsSpoke.calls kj122 _ _ t370 (wrap64 (t371 - x47_120)) true true _ ?side1 ?side2 A128.out).mono ?_); (case side1 => repeat (first | exact (Kd.R_reads' HO_5.out).2.2 | (with_reducible refine Kd.C_alloc ?_ _) | (with_reducible refine Kd.C_drewN ?_ _) | (with_reducible refine Kd.C_drew ?_))); (case side2 => exact (Kd.R_reads' HO_5.out).2.1); rintro e w135 ⟨rfl, hb⟩; have n0_ := Aside0.mk (Kd.R_below (by (with_reducible repeat (first | apply Kd.R_alloc | apply Kd.R_drewN | apply Kd.R_drew)); exact HO_5.out) hb); have n1_ := Aside0.mk (below_step (by repeat (first | (with_reducible first | exact HB.out | apply below_alloc | apply pw_below_drewN | apply below_drew1) | exact HB.out)) hb); clear HO_5; clear HB; have HO_5 := n0_; have HB := n1_; clear n0_ n1_; (try clear hb); (try clear hb2); (try clear hk); (try clear hi)) | (go_at_call 11; (with_reducible refine (impl_IsSpoke.calls kj122 _ _ t370 (wrap64 (t371 + x47_120)) t428 true _ ?side1 ?side2 A129.out).mono ?_); (case side1 => repeat (first | exact (Kd.R_reads' HO_5.out).2.2 | (with_reducible refine Kd.C_alloc ?_ _) | (with_reducible refine Kd.C_drewN ?_ _) | (with_reducible refine Kd.C_drew ?_))); (case side2 => exact (Kd.R_reads' HO_5.out).2.1); rintro e w136 ⟨rfl, hb⟩; have n0_ := Aside0.mk (Kd.R_below (by (with_reducible repeat (first | apply Kd.R_alloc | apply Kd.R_drewN | apply Kd.R_drew)); exact HO_5.out) hb); have n1_ := Aside0.mk (below_step (by repeat (first | (with_reducible first | exact HB.out | apply below_alloc | apply pw_below_drewN | apply below_drew1) | exact HB.out)) hb); clear HO_5; clear HB; have HO_5 := n0_; have HB := n1_; clear n0_ n1_; (try clear hb); (try clear hb2); (try clear hk); (try clear hi))))
                     go_ret
                     exact ⟨by first | rfl | (simp [errW_none, errW_some] <;> rfl) | (simp [*, errW_none, errW_some] <;> rfl), by repeat (first | (with_reducible first | exact HB.out | apply below_alloc | apply pw_below_drewN | apply below_drew1) | exact HB.out)⟩
                    ·replace c133 := Bool.eq_false_iff.mpr c133
                     subst c133
                     have H1 : (if t428 = true then (if t386 > t371 then (some true) else (some true)) else (none)) = some r := by rw [if_neg (show ¬ (false = true) by decide)] at H; exact H
                     clear H
                     have H := H1
                     clear H1
                     have c137 : t428 = true := Classical.byContradiction fun c137 => by
                      replace c137 := Bool.eq_false_iff.mpr c137
                      subst c137
                      have H1 : (none) = some r := by rw [if_neg (show ¬ (false = true) by decide)] at H; exact H
                      clear H
                      have H := H1
                      clear H1
                      exact absurd H (by simp)
                     subst c137
                     have H1 : (if t386 > t371 then (some true) else (some true)) = some r := by rw [if_pos rfl] at H; exact H
                     clear H
                     have H := H1
                     clear H1
                     by_cases c138 : t386 > t371
                     ·as_aux_lemma =>
                      rw [if_pos c138] at H
                      have c138b0 : decide (t371 < t386) = true := decide_eq_true c138
                      clear c138
                      obtain rfl := Option.some.inj H
                      as_aux_lemma =>
                      go_wp2_with (first | (go_at_call 11; (with_reducible refine (impl_IsSpoke.calls kj122 _ _ t370 (wrap64 (t371 - x47_120)) false true _ ?side1 ?side2 A128.out).mono ?_); (case side1 => repeat (first | exact (Kd.R_reads' HO_5.out).2.2 | (with_reducible refine Kd.C_alloc ?_ _) | (with_reducible refine Kd.C_drewN ?_ _) | (with_reducible refine Kd.C_drew ?_))); (case side2 => exact (Kd.R_reads' HO_5.out).2.1); rintro e w139 ⟨rfl, hb⟩; have n0_ := Aside0.mk (Kd.R_below (by (with_reducible repeat (first | apply Kd.R_alloc | apply Kd.R_drewN | apply Kd.R_drew)); exact HO_5.out) hb); have n1_ := Aside0.mk (below_step (by repeat (first | (with_reducible first | exact HB.out | apply below_alloc | apply pw_below_drewN | apply below_drew1) | exact HB.out)) hb); clear HO_5; clear HB; have HO_5 := n0_; have HB := n1_; clear n0_ n1_; (try clear hb); (try clear hb2); (try clear hk); (try clear hi)))
                      as_aux_lemma =>
                      go_wp2_with (first | (go_at_call 11; (with_reducible refine (impl_IsSpoke.calls kj122 _ _ t370 (wrap64 (t371 + x47_120)) true true _ ?side1 ?side2 A129.out).mono ?_); (case side1 => repeat (first | exact (Kd.R_reads' HO_5.out).2.2 | (with_reducible refine Kd.C_alloc ?_ _) | (with_reducible refine Kd.C_drewN ?_ _) | (with_reducible refine Kd.C_drew ?_))); (case side2 => exact (Kd.R_reads' HO_5.out).2.1); rintro e w140 ⟨rfl, hb⟩; have n0_ := Aside0.mk (Kd.R_below (by (with_reducible repeat (first | apply Kd.R_alloc | apply Kd.R_drewN | apply Kd.R_drew)); exact HO_5.out) hb); have n1_ := Aside0.mk (below_step (by repeat (first | (with_reducible first | exact HB.out | apply below_alloc | apply pw_below_drewN | apply below_drew1) | exact HB.out)) hb); clear HO_5; clear HB; have HO_5 := n0_; have HB := n1_; clear n0_ n1_; (try clear hb); (try clear hb2); (try clear hk); (try clear hi)))
                      repeat (go_quiet (first | (go_at_call 11; (with_reducible refine (impl_IsSpoke.calls kj122 _ _ t370 (wrap64 (t371 - x47_120)) false true _ ?side1 ?side2 A128.out).mono ?_); (case side1 => repeat (first | exact (Kd.R_reads' HO_5.out).2.2 | (with_reducible refine Kd.C_alloc ?_ _) | (with_reducible refine Kd.C_drewN ?_ _) | (with_reducible refine Kd.C_drew ?_))); (case side2 => exact (Kd.R_reads' HO_5.out).2.1); rintro e w139 ⟨rfl, hb⟩; have n0_ := Aside0.mk (Kd.R_below (by (with_reducible repeat (first | apply Kd.R_alloc | apply Kd.R_drewN | apply Kd.R_drew)); exact HO_5.out) hb); have n1_ := Aside0.mk (below_step (by repeat (first | (with_reducible first | exact HB.out | apply below_alloc | apply pw_below_drewN | apply below_drew1) | exact HB.out)) hb); clear HO_5; clear HB; have HO_5 := n0_; have HB := n1_; clear n0_ n1_; (try clear hb); (try clear hb2); (try clear hk); (try clear hi)) | (go_at_call 11; (with_reducible refine (impl_IsSpoke.calls kj122 _ _ t370 (wrap64 (t371 + x47_120)) true true _ ?side1 ?side2 A129.out).mono ?_); (case side1 => repeat (first | exact (Kd.R_reads' HO_5.out).2.2 | (with_reducible refine Kd.C_alloc ?_ _) | (with_reducible refine Kd.C_drewN ?_ _) | (with_reducible refine Kd.C_drew ?_))); (case side2 => exact (Kd.R_reads' HO_5.out).2.1); rintro e w140 ⟨rfl, hb⟩; have n0_ := Aside0.mk (Kd.R_below (by (with_reducible repeat (first | apply Kd.R_alloc | apply Kd.R_drewN | apply Kd.R_drew)); exact HO_5.out) hb); have n1_ := Aside0.mk (below_step (by repeat (first | (with_reducible first | exact HB.out | apply below_alloc | apply pw_below_drewN | apply below_drew1) | exact HB.out)) hb); clear HO_5; clear HB; have HO_5 := n0_; have HB := n1_; clear n0_ n1_; (try clear hb); (try clear hb2); (try clear hk); (try clear hi))); try go_wp2_with (first | (go_at_call 11; (with_reducible refine (impl_IsSpoke.calls kj122 _ _ t370 (wrap64 (t371 - x47_120)) false true _ ?side1 ?side2 A128.out).mono ?_); (case side1 => repeat (first | exact (Kd.R_reads' HO_5.out).2.2 | (with_reducible refine Kd.C_alloc ?_ _) | (with_reducible refine Kd.C_drewN ?_ _) | (with_reducible refine Kd.C_drew ?_))); (case side2 => exact (Kd.R_reads' HO_5.out).2.1); rintro e w139 ⟨rfl, hb⟩; have n0_ := Aside0.mk (Kd.R_below (by (with_reducible repeat (first | apply Kd.R_alloc | apply Kd.R_drewN | apply Kd.R_drew)); exact HO_5.out) hb); have n1_ := Aside0.mk (below_step (by repeat (first | (with_reducible first | exact HB.out | apply below_alloc | apply pw_below_drewN | apply below_drew1) | exact HB.out)) hb); clear HO_5; clear HB; have HO_5 := n0_; have HB := n1_; clear n0_ n1_; (try clear hb); (try clear hb2); (try clear hk); (try clear hi)) | (go_at_call 11; (with_reducible refine (impl_IsSpoke.calls kj122 _ _ t370 (wrap64 (t371 + x47_120)) true true _ ?side1 ?side2 A129.out).mono ?_); (case side1 => repeat (first | exact (Kd.R_reads' HO_5.out).2.2 | (with_reducible refine Kd.C_alloc ?_ _) | (with_reducible refine Kd.C_drewN ?_ _) | (with_reducible refine Kd.C_drew ?_))); (case side2 => exact (Kd.R_reads' HO_5.out).2.1); rintro e w140 ⟨rfl, hb⟩; have n0_ := Aside0.mk (Kd.R_below (by (with_reducible repeat (first | apply Kd.R_alloc | apply Kd.R_drewN | apply Kd.R_drew)); exact HO_5.out) hb); have n1_ := Aside0.mk (below_step (by repeat (first | (with_reducible first | exact HB.out | apply below_alloc | apply pw_below_drewN | apply below_drew1) | exact HB.out)) hb); clear HO_5; clear HB; have HO_5 := n0_; have HB := n1_; clear n0_ n1_; (try clear hb); (try clear hb2); (try clear hk); (try clear hi))))
                      go_ret
                      exact ⟨by first | rfl | (simp [errW_none, errW_some] <;> rfl) | (simp [*, errW_none, errW_some] <;> rfl), by repeat (first | (with_reducible first | exact HB.out | apply below_alloc | apply pw_below_drewN | apply below_drew1) | exact HB.out)⟩
                     ·as_aux_lemma =>
                      rw [if_neg c138] at H
                      have c138b0 : decide (t371 < t386) = false := decide_eq_false c138
                      clear c138
                      obtain rfl := Option.some.inj H
                      as_aux_lemma =>
                      go_wp2_with (first | (go_at_call 11; (with_reducible refine (impl_IsSpoke.calls kj122 _ _ t370 (wrap64 (t371 - x47_120)) false true _ ?side1 ?side2 A128.out).mono ?_); (case side1 => repeat (first | exact (Kd.R_reads' HO_5.out).2.2 | (with_reducible refine Kd.C_alloc ?_ _) | (with_reducible refine Kd.C_drewN ?_ _) | (with_reducible refine Kd.C_drew ?_))); (case side2 => exact (Kd.R_reads' HO_5.out).2.1); rintro e w141 ⟨rfl, hb⟩; have n0_ := Aside0.mk (Kd.R_below (by (with_reducible repeat (first | apply Kd.R_alloc | apply Kd.R_drewN | apply Kd.R_drew)); exact HO_5.out) hb); have n1_ := Aside0.mk (below_step (by repeat (first | (with_reducible first | exact HB.out | apply below_alloc | apply pw_below_drewN | apply below_drew1) | exact HB.out)) hb); clear HO_5; clear HB; have HO_5 := n0_; have HB := n1_; clear n0_ n1_; (try clear hb); (try clear hb2); (try clear hk); (try clear hi)))
                      as_aux_lemma =>
                      go_wp2_with (first | (go_at_call 11; (with_reducible refine (impl_IsSpoke.calls kj122 _ _ t370 (wrap64 (t371 + x47_120)) true true _ ?side1 ?side2 A129.out).mono ?_); (case side1 => repeat (first | exact (Kd.R_reads' HO_5.out).2.2 | (with_reducible refine Kd.C_alloc ?_ _) | (with_reducible refine Kd.C_drewN ?_ _) | (with_reducible refine Kd.C_drew ?_))); (case side2 => exact (Kd.R_reads' HO_5.out).2.1); rintro e w142 ⟨rfl, hb⟩; have n0_ := Aside0.mk (Kd.R_below (by (with_reducible repeat (first | apply Kd.R_alloc | apply Kd.R_drewN | apply Kd.R_drew)); exact HO_5.out) hb); have n1_ := Aside0.mk (below_step (by repeat (first | (with_reducible first | exact HB.out | apply below_alloc | apply pw_below_drewN | apply below_drew1) | exact HB.out)) hb); clear HO_5; clear HB; have HO_5 := n0_; have HB := n1_; clear n0_ n1_; (try clear hb); (try clear hb2); (try clear hk); (try clear hi)))
                      repeat (go_quiet (first | (go_at_call 11; (with_reducible refine (impl_IsSpoke.calls kj122 _ _ t370 (wrap64 (t371 - x47_120)) false true _ ?side1 ?side2 A128.out).mono ?_); (case side1 => repeat (first | exact (Kd.R_reads' HO_5.out).2.2 | (with_reducible refine Kd.C_alloc ?_ _) | (with_reducible refine Kd.C_drewN ?_ _) | (with_reducible refine Kd.C_drew ?_))); (case side2 => exact (Kd.R_reads' HO_5.out).2.1); rintro e w141 ⟨rfl, hb⟩; have n0_ := Aside0.mk (Kd.R_below (by (with_reducible repeat (first | apply Kd.R_alloc | apply Kd.R_drewN | apply Kd.R_drew)); exact HO_5.out) hb); have n1_ := Aside0.mk (below_step (by repeat (first | (with_reducible first | exact HB.out | apply below_alloc | apply pw_below_drewN | apply below_drew1) | exact HB.out)) hb); clear HO_5; clear HB; have HO_5 := n0_; have HB := n1_; clear n0_ n1_; (try clear hb); (try clear hb2); (try clear hk); (try clear hi)) | (go_at_call 11; (with_reducible refine (impl_IsSpoke.calls kj122 _ _ t370 (wrap64 (t371 + x47_120)) true true _ ?side1 ?side2 A129.out).mono ?_); (case side1 => repeat (first | exact (Kd.R_reads' HO_5.out).2.2 | (with_reducible refine Kd.C_alloc ?_ _) | (with_reducible refine Kd.C_drewN ?_ _) | (with_reducible refine Kd.C_drew ?_))); (case side2 => exact (Kd.R_reads' HO_5.out).2.1); rintro e w142 ⟨rfl, hb⟩; have n0_ := Aside0.mk (Kd.R_below (by (with_reducible repeat (first | apply Kd.R_alloc | apply Kd.R_drewN | apply Kd.R_drew)); exact HO_5.out) hb); have n1_ := Aside0.mk (below_step (by repeat (first | (with_reducible first | exact HB.out | apply below_alloc | apply pw_below_drewN | apply below_drew1) | exact HB.out)) hb); clear HO_5; clear HB; have HO_5 := n0_; have HB := n1_; clear n0_ n1_; (try clear hb); (try clear hb2); (try clear hk); (try clear hi))); try go_wp2_with (first | (go_at_call 11; (with_reducible refine (impl_IsSpoke.calls kj122 _ _ t370 (wrap64 (t371 - x47_120)) false true _ ?side1 ?side2 A128.out).mono ?_); (case side1 => repeat (first | exact (Kd.R_reads' HO_5.out).2.2 | (with_reducible refine Kd.C_alloc ?_ _) | (with_reducible refine Kd.C_drewN ?_ _) | (with_reducible refine Kd.C_drew ?_))); (case side2 => exact (Kd.R_reads' HO_5.out).2.1); rintro e w141 ⟨rfl, hb⟩; have n0_ := Aside0.mk (Kd.R_below (by (with_reducible repeat (first | apply Kd.R_alloc | apply Kd.R_drewN | apply Kd.R_drew)); exact HO_5.out) hb); have n1_ := Aside0.mk (below_step (by repeat (first | (with_reducible first | exact HB.out | apply below_alloc | apply pw_below_drewN | apply below_drew1) | exact HB.out)) hb); clear HO_5; clear HB; have HO_5 := n0_; have HB := n1_; clear n0_ n1_; (try clear hb); (try clear hb2); (try clear hk); (try clear hi)) | (go_at_call 11; (with_reducible refine (impl_IsSpoke.calls kj122 _ _ t370 (wrap64 (t371 + x47_120)) true true _ ?side1 ?side2 A129.out).mono ?_); (case side1 => repeat (first | exact (Kd.R_reads' HO_5.out).2.2 | (with_reducible refine Kd.C_alloc ?_ _) | (with_reducible refine Kd.C_drewN ?_ _) | (with_reducible refine Kd.C_drew ?_))); (case side2 => exact (Kd.R_reads' HO_5.out).2.1); rintro e w142 ⟨rfl, hb⟩; have n0_ := Aside0.mk (Kd.R_below (by (with_reducible repeat (first | apply Kd.R_alloc | apply Kd.R_drewN | apply Kd.R_drew)); exact HO_5.out) hb); have n1_ := Aside0.mk (below_step (by repeat (first | (with_reducible first | exact HB.out | apply below_alloc | apply pw_below_drewN | apply below_drew1) | exact HB.out)) hb); clear HO_5; clear HB; have HO_5 := n0_; have HB := n1_; clear n0_ n1_; (try clear hb); (try clear hb2); (try clear hk); (try clear hi))))
                      go_ret
                      exact ⟨by first | rfl | (simp [errW_none, errW_some] <;> rfl) | (simp [*, errW_none, errW_some] <;> rfl), by repeat (first | (with_reducible first | exact HB.out | apply below_alloc | apply pw_below_drewN | apply below_drew1) | exact HB.out)⟩
                   ·replace c127 := Bool.eq_false_iff.mpr c127
                    subst c127
                    have H1 : (some true) = some r := by rw [if_neg (show ¬ (false = true) by decide)] at H; exact H
                    clear H
                    have H := H1
                    clear H1
                    obtain rfl := Option.some.inj H
                    as_aux_lemma =>
                    go_wp2
                    repeat (go_quiet (fail); try go_wp2)
                    go_ret
                    exact ⟨by first | rfl | (simp [errW_none, errW_some] <;> rfl) | (simp [*, errW_none, errW_some] <;> rfl), by repeat (first | (with_reducible first | exact HB.out | apply below_alloc | apply pw_below_drewN | apply below_drew1) | exact HB.out)⟩
              ·replace c120 := Bool.eq_false_iff.mpr c120
               subst c120
               have H1 : (some true) = some r := by rw [if_neg (show ¬ (false = true) by decide)] at H; exact H
               clear H
               have H := H1
               clear H1
               obtain rfl := Option.some.inj H
               as_aux_lemma =>
               go_wp2
               repeat (go_quiet (fail); try go_wp2)
               go_ret
               exact ⟨by first | rfl | (simp [errW_none, errW_some] <;> rfl) | (simp [*, errW_none, errW_some] <;> rfl), by repeat (first | (with_reducible first | exact HB.out | apply below_alloc | apply pw_below_drewN | apply below_drew1) | exact HB.out)⟩
    ·replace c75 := Bool.eq_false_iff.mpr c75
     subst c75
     have H1 : (some true) = some r := by rw [if_neg (show ¬ (false = true) by decide)] at H; exact H
     clear H
     have H := H1
     clear H1
     obtain rfl := Option.some.inj H
     as_aux_lemma =>
     go_wp2
     repeat (go_quiet (fail); try go_wp2)
     go_ret
     exact ⟨by first | rfl | (simp [errW_none, errW_some] <;> rfl) | (simp [*, errW_none, errW_some] <;> rfl), by repeat (first | (with_reducible first | exact HB.out | apply below_alloc | apply pw_below_drewN | apply below_drew1) | exact HB.out)⟩

/-- THE ONE PURE STATEMENT of laws_FnWheelsTurn: yours. -/
def laws_FnWheelsTurn.Pure : Prop := ∀ (l0 : List Int) (l1 : List Int), l0.length ≤ maxLen → l0.length * 1 ≤ 140737488351232 → (∀ x ∈ l0, (Lit.int .u8 x).wf = true) → l1.length ≤ maxLen → l1.length * 1 ≤ 140737488351232 → (∀ x ∈ l1, (Lit.int .u8 x).wf = true) → ∃ k, laws_FnWheelsTurn.f k l0 l1 = some true
theorem laws_FnWheelsTurn.walk (P : laws_FnWheelsTurn.Pure) (a0 : Option Addr) (len0 cap0 : Nat) (z0 : List Int) (a1 : Option Addr) (len1 cap1 : Nat) (z1 : List Int) (w : World) (w0 : (a0 = none ∧ len0 = 0 ∧ cap0 = 0 ∧ z0 = []) ∨ ∃ x, a0 = some x ∧ len0 ≤ cap0 ∧ cap0 ≤ maxLen ∧ z0.length = cap0 ∧ (∀ i, i < z0.length → w.cell? (x.add i) = some (.int .u8 (z0.getD i 0))) ∧ ∀ n ∈ z0, (Lit.int .u8 n).wf = true) (y0 : len0 * 1 ≤ 140737488351232) (w1 : (a1 = none ∧ len1 = 0 ∧ cap1 = 0 ∧ z1 = []) ∨ ∃ x, a1 = some x ∧ len1 ≤ cap1 ∧ cap1 ≤ maxLen ∧ z1.length = cap1 ∧ (∀ i, i < z1.length → w.cell? (x.add i) = some (.int .u8 (z1.getD i 0))) ∧ ∀ n ∈ z1, (Lit.int .u8 n).wf = true) (y1 : len1 * 1 ≤ 140737488351232) :
  Calls Try.prog 4 #[.slice a0 len0 cap0, .slice a1 len1 cap1] w fun e w' => e = .returned (.bool true) ∧ Below w.heap.size w w' := by
 obtain ⟨l0, rfl, hr0, hm0, hw0, hc0⟩ := ReadsInt.ofRowC w0
 obtain ⟨l1, rfl, hr1, hm1, hw1, hc1⟩ := ReadsInt.ofRowC w1
 obtain ⟨k, h⟩ := P l0 l1 hm0 y0 hw0 hm1 y1 hw1
 refine (laws_FnWheelsTurn.calls k _ _ l0 _ _ l1 true w (Kd.C_of_reads (d := (0 : Int)) (h1 := fun _ => rfl) hr0) hc0 (Kd.C_of_reads (d := (0 : Int)) (h1 := fun _ => rfl) hr1) hc1 h).mono ?_
 rintro e w' ⟨rfl, hd⟩
 exact ⟨rfl, hd⟩

end Go.Proofs.Ytdaodlhcedjfoaa.P
