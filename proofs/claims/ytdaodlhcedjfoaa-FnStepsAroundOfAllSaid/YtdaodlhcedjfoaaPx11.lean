-- Printed for this claim by a program of this session, out of the translation. Lean checks it.
import Derived.Test.YtdaodlhcedjfoaaPx0
import Derived.Test.YtdaodlhcedjfoaaPx2
import Derived.Test.YtdaodlhcedjfoaaPx3
import Derived.Test.YtdaodlhcedjfoaaPx4
import Derived.Test.YtdaodlhcedjfoaaPx5
import Derived.Test.YtdaodlhcedjfoaaPx6
import Derived.Test.YtdaodlhcedjfoaaPx7
import Derived.Test.YtdaodlhcedjfoaaPx8
import Derived.Test.YtdaodlhcedjfoaaPx9
import Derived.Test.YtdaodlhcedjfoaaPx10
-- SLIM
namespace Go.Proofs.Ytdaodlhcedjfoaa.P
open Go.RowKit Go.Proofs.YtdaodlhcedjfoaaW.PrintWords Go.Proofs.YtdaodlhcedjfoaaW.PrintLast Go.Proofs.YtdaodlhcedjfoaaW.PrintMore
attribute [local go_sem] max2_int min2_int max_two min_two max_three min_three max_four min_four   -- for this text's walks alone
set_option linter.unusedVariables false
set_option linter.unusedSimpArgs false

/-! ### laws_FnStepsAroundOfAll: function 6 -/
mutual
def laws_FnStepsAroundOfAll.j0 : Nat → List (S45) → List (S45) → Int → List (S45) → Int → List (S45) → Int → List (S45) → List Int → Bool → Option (Bool)
 | 0, _, _, _, _, _, _, _, _, _, _ => none
 | k + 1, x0, x1, x2, x3, x4, x5, x6, x7, x8, x111 => if x111 = true then (some true) else ((impl_LongestStep.f k x0).bind fun bt411 => ((spec_LongestStep.f k x0).bind fun bt414 => ((impl_StepSizes.f k x0).bind fun bt417 => ((spec_StepSizes.f k x0).bind fun bt421 => ((impl_LeastPeriod.f k x0).bind fun bt425 => ((spec_LeastPeriod.f k x0).bind fun bt427 => ((impl_IsSymmetric.f k x0).bind fun bt429 => ((spec_IsSymmetric.f k x0).bind fun bt431 => ((impl_StepsOf.f k x0).bind fun bt433 => (if (bt411.2.2 != bt414.2.2) = true then (none) else (if bt411.1 = bt414.1 then (if bt411.2.1 = bt414.2.1 then (if (bt417.2 != bt421.2) = true then (none) else ((laws_gSame.f k bt417.1 bt421.1).bind fun t437 => (if t437 = true then (if (bt425.2 != bt427.2) = true then (none) else (if bt425.1 = bt427.1 then (if (bt429.2 != bt431.2) = true then (none) else (if (bt429.1 != bt431.1) = true then (none) else (if (bt417.2 != bt411.2.2) = true then (none) else (if (bt425.2 != bt411.2.2) = true then (none) else (if (bt429.2 != bt411.2.2) = true then (none) else (if (bt433.2 != bt411.2.2) = true then (none) else (if bt411.2.2 = true then ((impl_PeriodOfRules.f k x0).bind fun bt438 => ((impl_SpokesOf.f k x0).bind fun bt440 => (laws_FnStepsAroundOfAll.l0 k x0 x1 x2 x3 x4 x5 x6 x7 x8 bt411.1 bt411.2.1 bt417.1 bt425.1 bt429.1 bt433.1 bt438.1 bt438.2 bt440.1 bt440.2 0 0 bt417.1 (bt417.1.length : Int) 0))) else (laws_FnStepsAroundOfAll.j4 k x1 x2 x3 x4 x5 x6 x7 x8)))))))) else (none))) else (none)))) else (none)) else (none))))))))))))
def laws_FnStepsAroundOfAll.j4 : Nat → List (S45) → Int → List (S45) → Int → List (S45) → Int → List (S45) → List Int → Option (Bool)
 | 0, _, _, _, _, _, _, _, _ => none
 | k + 1, x1, x2, x3, x4, x5, x6, x7, x8 => (impl_RollWheel.f k x1 x2).bind fun bt456 => ((spec_RollWheel.f k x1 x2).bind fun bt460 => (if (bt456.2 != bt460.2) = true then (none) else ((laws_gSame.f k bt456.1 bt460.1).bind fun t464 => (if t464 = true then (if bt456.2 = true then ((impl_CountSpokes.f k x1).bind fun bt465 => ((some (([] : List (S45)) : List (S45))).bind fun y467 => (if y467.length + x1.length < 8796093022208 then ((some (y467 ++ x1 : List (S45))).bind fun y470 => (if y470.length < 8796093022208 then ((impl_SpokesOf.f k (y470 ++ [(⟨x2, 0⟩ : S45)])).bind fun bt476 => (if bt465.2 = true then (if (bt456.1.length : Int) = (wrap64 (bt465.1 * (wrap64 (x2 - 1)))) then (if bt476.2 = true then ((laws_gSame.f k bt476.1 bt456.1).bind fun t480 => (if t480 = true then (laws_FnStepsAroundOfAll.j5 k x3 x4 x5 x6 x7 x8) else (none))) else (none)) else (none)) else (none))) else (none))) else (none)))) else (laws_FnStepsAroundOfAll.j5 k x3 x4 x5 x6 x7 x8)) else (none)))))
def laws_FnStepsAroundOfAll.j5 : Nat → List (S45) → Int → List (S45) → Int → List (S45) → List Int → Option (Bool)
 | 0, _, _, _, _, _, _ => none
 | k + 1, x3, x4, x5, x6, x7, x8 => (impl_TimesTogether.f k x3 x4).bind fun bt481 => ((spec_TimesTogether.f k x3 x4).bind fun bt483 => ((impl_CountStep.f k x5 x6).bind fun bt485 => ((spec_CountStep.f k x5 x6).bind fun bt487 => ((impl_FirstRun.f k x7 x8).bind fun bt489 => ((spec_FirstRun.f k x7 x8).bind fun bt491 => (if (bt481.2 != bt483.2) = true then (none) else (if bt481.1 = bt483.1 then (if (bt485.2 != bt487.2) = true then (none) else (if bt485.1 = bt487.1 then (if (bt489.2 != bt491.2) = true then (none) else (if bt489.1 = bt491.1 then (if bt481.2 = true then ((impl_CountStep.f k x3 x4).bind fun bt493 => (if bt493.2 = true then (if bt481.1 < bt493.1 then (none) else (laws_FnStepsAroundOfAll.j6 k x7 x8 bt489.1 bt489.2)) else (none))) else (laws_FnStepsAroundOfAll.j6 k x7 x8 bt489.1 bt489.2)) else (none))) else (none))) else (none))))))))
def laws_FnStepsAroundOfAll.j6 : Nat → List (S45) → List Int → Int → Bool → Option (Bool)
 | 0, _, _, _, _ => none
 | k + 1, x7, x8, x70, x71 => if x71 = true then (laws_FnStepsAroundOfAll.l3 k x7 x70 x8 (x8.length : Int) 0) else (some true)
def laws_FnStepsAroundOfAll.l3 : Nat → List (S45) → Int → List Int → Int → Int → Option (Bool)
 | 0, _, _, _, _, _ => none
 | k + 1, x7, x76, x515, x516, x517 => if x517 < x516 then (if 0 ≤ x517 then (if x517 < (x515.length : Int) then ((impl_IsSpoke.f k x7 (wrap64 (x76 + (rd x515 x517)))).bind fun bt496 => (if bt496.2 = true then (if bt496.1 = true then (laws_FnStepsAroundOfAll.l4 k x7 x76 (rd x515 x517) 1 x515 x516 x517) else (none)) else (none))) else (none)) else (none)) else (some true)
def laws_FnStepsAroundOfAll.l4 : Nat → List (S45) → Int → Int → Int → List Int → Int → Int → Option (Bool)
 | 0, _, _, _, _, _, _, _ => none
 | k + 1, x7, x76, x78, x81, x515, x516, x517 => if x81 < x78 then ((impl_IsSpoke.f k x7 (wrap64 (x76 + x81))).bind fun bt498 => (if bt498.2 = true then (if bt498.1 = true then (none) else (laws_FnStepsAroundOfAll.l4 k x7 x76 x78 (wrap64 (x81 + 1)) x515 x516 x517)) else (none))) else (laws_FnStepsAroundOfAll.l3 k x7 (wrap64 (x76 + x78)) x515 x516 (wrap64 (x517 + 1)))
def laws_FnStepsAroundOfAll.l0 : Nat → List (S45) → List (S45) → Int → List (S45) → Int → List (S45) → Int → List (S45) → List Int → Int → Int → List Int → Int → Bool → List Int → Int → Bool → List Int → Bool → Int → Int → List Int → Int → Int → Option (Bool)
 | 0, _, _, _, _, _, _, _, _, _, _, _, _, _, _, _, _, _, _, _, _, _, _, _, _ => none
 | k + 1, x0, x1, x2, x3, x4, x5, x6, x7, x8, x19, x20, x25, x29, x33, x37, x39, x40, x41, x42, x43, x44, x234, x235, x236 => if x236 < x235 then (if 0 ≤ x236 then (if x236 < (x234.length : Int) then ((impl_CountStep.f k x0 (rd x234 x236)).bind fun bt445 => (if bt445.2 = true then (if bt445.1 < 1 then (none) else ((laws_gHas.f k x37 (rd x234 x236)).bind fun t447 => (if t447 = true then (if x236 > 0 then (if 0 ≤ (wrap64 (x236 - 1)) then (if (wrap64 (x236 - 1)) < (x25.length : Int) then (if (rd x25 (wrap64 (x236 - 1))) ≥ (rd x234 x236) then (none) else (laws_FnStepsAroundOfAll.l0 k x0 x1 x2 x3 x4 x5 x6 x7 x8 x19 x20 x25 x29 x33 x37 x39 x40 x41 x42 (wrap64 (x43 + bt445.1)) (rd x234 x236) x234 x235 (wrap64 (x236 + 1)))) else (none)) else (none)) else (laws_FnStepsAroundOfAll.l0 k x0 x1 x2 x3 x4 x5 x6 x7 x8 x19 x20 x25 x29 x33 x37 x39 x40 x41 x42 (wrap64 (x43 + bt445.1)) (rd x234 x236) x234 x235 (wrap64 (x236 + 1)))) else (none)))) else (none))) else (none)) else (none)) else (if x40 = true then (if x29 = 0 then (none) else (if (Int.tmod x39 x29) = 0 then (if x42 = true then (if x43 = (x37.length : Int) then (if x44 = x19 then ((laws_gHas.f k x41 x20).bind fun t449 => (if t449 = true then (if x39 = 0 then (none) else (if (Int.tmod (wrap64 ((x41.length : Int) * x29)) x39) = 0 then (laws_FnStepsAroundOfAll.l1 k x1 x2 x3 x4 x5 x6 x7 x8 x19 x20 x33 x37 x39 x41 x37 (x37.length : Int) 0) else (none))) else (none))) else (none)) else (none)) else (none)) else (none))) else (none))
def laws_FnStepsAroundOfAll.l1 : Nat → List (S45) → Int → List (S45) → Int → List (S45) → Int → List (S45) → List Int → Int → Int → Bool → List Int → Int → List Int → List Int → Int → Int → Option (Bool)
 | 0, _, _, _, _, _, _, _, _, _, _, _, _, _, _, _, _, _ => none
 | k + 1, x1, x2, x3, x4, x5, x6, x7, x8, x19, x20, x33, x37, x39, x41, x315, x316, x317 => if x317 < x316 then (if 0 ≤ x317 then (if x317 < (x315.length : Int) then (if (rd x315 x317) > x19 then (none) else (if (rd x315 x317) = x19 then (if x317 < (x41.length : Int) then (if (rd x41 x317) < x20 then (none) else (laws_FnStepsAroundOfAll.l1 k x1 x2 x3 x4 x5 x6 x7 x8 x19 x20 x33 x37 x39 x41 x315 x316 (wrap64 (x317 + 1)))) else (none)) else (laws_FnStepsAroundOfAll.l1 k x1 x2 x3 x4 x5 x6 x7 x8 x19 x20 x33 x37 x39 x41 x315 x316 (wrap64 (x317 + 1))))) else (none)) else (none)) else (if x33 = true then (laws_FnStepsAroundOfAll.l2 k x1 x2 x3 x4 x5 x6 x7 x8 x37 x39 x41 x37 (x37.length : Int) 0) else (laws_FnStepsAroundOfAll.j4 k x1 x2 x3 x4 x5 x6 x7 x8))
def laws_FnStepsAroundOfAll.l2 : Nat → List (S45) → Int → List (S45) → Int → List (S45) → Int → List (S45) → List Int → List Int → Int → List Int → List Int → Int → Int → Option (Bool)
 | 0, _, _, _, _, _, _, _, _, _, _, _, _, _, _ => none
 | k + 1, x1, x2, x3, x4, x5, x6, x7, x8, x37, x39, x41, x340, x341, x342 => if x342 < x341 then (if 0 ≤ x342 then (if x342 < (x340.length : Int) then (if 0 ≤ (wrap64 ((x41.length : Int) - 1)) then (if (wrap64 ((x41.length : Int) - 1)) < (x41.length : Int) then (if (rd x41 (wrap64 ((x41.length : Int) - 1))) = x39 then (if (x37.length : Int) = 0 then (none) else (if 0 ≤ (Int.tmod (wrap64 ((wrap64 ((wrap64 ((wrap64 ((x37.length : Int) - 2)) - x342)) - 1)) + (wrap64 (3 * (x37.length : Int))))) (x37.length : Int)) then (if (Int.tmod (wrap64 ((wrap64 ((wrap64 ((wrap64 ((x37.length : Int) - 2)) - x342)) - 1)) + (wrap64 (3 * (x37.length : Int))))) (x37.length : Int)) < (x37.length : Int) then (if (rd x37 (Int.tmod (wrap64 ((wrap64 ((wrap64 ((wrap64 ((x37.length : Int) - 2)) - x342)) - 1)) + (wrap64 (3 * (x37.length : Int))))) (x37.length : Int))) = (rd x340 x342) then (laws_FnStepsAroundOfAll.l2 k x1 x2 x3 x4 x5 x6 x7 x8 x37 x39 x41 x340 x341 (wrap64 (x342 + 1))) else (none)) else (none)) else (none))) else (if (x37.length : Int) = 0 then (none) else (if 0 ≤ (Int.tmod (wrap64 ((wrap64 ((wrap64 ((x37.length : Int) - 2)) - x342)) + (wrap64 (3 * (x37.length : Int))))) (x37.length : Int)) then (if (Int.tmod (wrap64 ((wrap64 ((wrap64 ((x37.length : Int) - 2)) - x342)) + (wrap64 (3 * (x37.length : Int))))) (x37.length : Int)) < (x37.length : Int) then (if (rd x37 (Int.tmod (wrap64 ((wrap64 ((wrap64 ((x37.length : Int) - 2)) - x342)) + (wrap64 (3 * (x37.length : Int))))) (x37.length : Int))) = (rd x340 x342) then (laws_FnStepsAroundOfAll.l2 k x1 x2 x3 x4 x5 x6 x7 x8 x37 x39 x41 x340 x341 (wrap64 (x342 + 1))) else (none)) else (none)) else (none)))) else (none)) else (none)) else (none)) else (none)) else (laws_FnStepsAroundOfAll.j4 k x1 x2 x3 x4 x5 x6 x7 x8)
end
def laws_FnStepsAroundOfAll.f (k : Nat) (l0 : List (S45)) (l1 : List (S45)) (a2 : Int) (l3 : List (S45)) (a4 : Int) (l5 : List (S45)) (a6 : Int) (l7 : List (S45)) (l8 : List Int) : Option (Bool) := if (l0.length : Int) > 10000 then (laws_FnStepsAroundOfAll.j0 k l0 l1 a2 l3 a4 l5 a6 l7 l8 true) else (if (l1.length : Int) > 10000 then (laws_FnStepsAroundOfAll.j0 k l0 l1 a2 l3 a4 l5 a6 l7 l8 true) else (if (l3.length : Int) > 10000 then (laws_FnStepsAroundOfAll.j0 k l0 l1 a2 l3 a4 l5 a6 l7 l8 true) else (if (l5.length : Int) > 10000 then (laws_FnStepsAroundOfAll.j0 k l0 l1 a2 l3 a4 l5 a6 l7 l8 true) else (if (l7.length : Int) > 10000 then (laws_FnStepsAroundOfAll.j0 k l0 l1 a2 l3 a4 l5 a6 l7 l8 true) else (laws_FnStepsAroundOfAll.j0 k l0 l1 a2 l3 a4 l5 a6 l7 l8 (decide ((l8.length : Int) > 10000)))))))
theorem laws_FnStepsAroundOfAll.mono_l : ∀ k, (∀ y0 y1 y2 y3 y4 y5 y6 y7 y8 y9, LeO (laws_FnStepsAroundOfAll.j0 k y0 y1 y2 y3 y4 y5 y6 y7 y8 y9) (laws_FnStepsAroundOfAll.j0 (k + 1) y0 y1 y2 y3 y4 y5 y6 y7 y8 y9)) ∧ (∀ y0 y1 y2 y3 y4 y5 y6 y7, LeO (laws_FnStepsAroundOfAll.j4 k y0 y1 y2 y3 y4 y5 y6 y7) (laws_FnStepsAroundOfAll.j4 (k + 1) y0 y1 y2 y3 y4 y5 y6 y7)) ∧ (∀ y0 y1 y2 y3 y4 y5, LeO (laws_FnStepsAroundOfAll.j5 k y0 y1 y2 y3 y4 y5) (laws_FnStepsAroundOfAll.j5 (k + 1) y0 y1 y2 y3 y4 y5)) ∧ (∀ y0 y1 y2 y3, LeO (laws_FnStepsAroundOfAll.j6 k y0 y1 y2 y3) (laws_FnStepsAroundOfAll.j6 (k + 1) y0 y1 y2 y3)) ∧ (∀ y0 y1 y2 y3 y4, LeO (laws_FnStepsAroundOfAll.l3 k y0 y1 y2 y3 y4) (laws_FnStepsAroundOfAll.l3 (k + 1) y0 y1 y2 y3 y4)) ∧ (∀ y0 y1 y2 y3 y4 y5 y6, LeO (laws_FnStepsAroundOfAll.l4 k y0 y1 y2 y3 y4 y5 y6) (laws_FnStepsAroundOfAll.l4 (k + 1) y0 y1 y2 y3 y4 y5 y6)) ∧ (∀ y0 y1 y2 y3 y4 y5 y6 y7 y8 y9 y10 y11 y12 y13 y14 y15 y16 y17 y18 y19 y20 y21 y22 y23, LeO (laws_FnStepsAroundOfAll.l0 k y0 y1 y2 y3 y4 y5 y6 y7 y8 y9 y10 y11 y12 y13 y14 y15 y16 y17 y18 y19 y20 y21 y22 y23) (laws_FnStepsAroundOfAll.l0 (k + 1) y0 y1 y2 y3 y4 y5 y6 y7 y8 y9 y10 y11 y12 y13 y14 y15 y16 y17 y18 y19 y20 y21 y22 y23)) ∧ (∀ y0 y1 y2 y3 y4 y5 y6 y7 y8 y9 y10 y11 y12 y13 y14 y15 y16, LeO (laws_FnStepsAroundOfAll.l1 k y0 y1 y2 y3 y4 y5 y6 y7 y8 y9 y10 y11 y12 y13 y14 y15 y16) (laws_FnStepsAroundOfAll.l1 (k + 1) y0 y1 y2 y3 y4 y5 y6 y7 y8 y9 y10 y11 y12 y13 y14 y15 y16)) ∧ (∀ y0 y1 y2 y3 y4 y5 y6 y7 y8 y9 y10 y11 y12 y13, LeO (laws_FnStepsAroundOfAll.l2 k y0 y1 y2 y3 y4 y5 y6 y7 y8 y9 y10 y11 y12 y13) (laws_FnStepsAroundOfAll.l2 (k + 1) y0 y1 y2 y3 y4 y5 y6 y7 y8 y9 y10 y11 y12 y13))
 | 0 => ⟨fun _ _ _ _ _ _ _ _ _ _ r h => by simp [laws_FnStepsAroundOfAll.j0] at h, fun _ _ _ _ _ _ _ _ r h => by simp [laws_FnStepsAroundOfAll.j4] at h, fun _ _ _ _ _ _ r h => by simp [laws_FnStepsAroundOfAll.j5] at h, fun _ _ _ _ r h => by simp [laws_FnStepsAroundOfAll.j6] at h, fun _ _ _ _ _ r h => by simp [laws_FnStepsAroundOfAll.l3] at h, fun _ _ _ _ _ _ _ r h => by simp [laws_FnStepsAroundOfAll.l4] at h, fun _ _ _ _ _ _ _ _ _ _ _ _ _ _ _ _ _ _ _ _ _ _ _ _ r h => by simp [laws_FnStepsAroundOfAll.l0] at h, fun _ _ _ _ _ _ _ _ _ _ _ _ _ _ _ _ _ r h => by simp [laws_FnStepsAroundOfAll.l1] at h, fun _ _ _ _ _ _ _ _ _ _ _ _ _ _ r h => by simp [laws_FnStepsAroundOfAll.l2] at h⟩
 | k + 1 => by
  obtain ⟨ih0, ih1, ih2, ih3, ih4, ih5, ih6, ih7, ih8⟩ := laws_FnStepsAroundOfAll.mono_l k
  refine ⟨?_, ?_, ?_, ?_, ?_, ?_, ?_, ?_, ?_⟩
  ·intro y0 y1 y2 y3 y4 y5 y6 y7 y8 y9
   unfold laws_FnStepsAroundOfAll.j0
   repeat' first
   | (with_reducible exact ih0 _ _ _ _ _ _ _ _ _ _)
   | (with_reducible exact ih1 _ _ _ _ _ _ _ _)
   | (with_reducible exact ih2 _ _ _ _ _ _)
   | (with_reducible exact ih3 _ _ _ _)
   | (with_reducible exact ih4 _ _ _ _ _)
   | (with_reducible exact ih5 _ _ _ _ _ _ _)
   | (with_reducible exact ih6 _ _ _ _ _ _ _ _ _ _ _ _ _ _ _ _ _ _ _ _ _ _ _ _)
   | (with_reducible exact ih7 _ _ _ _ _ _ _ _ _ _ _ _ _ _ _ _ _)
   | (with_reducible exact ih8 _ _ _ _ _ _ _ _ _ _ _ _ _ _)
   | (with_reducible exact impl_CountSpokes.mono _ _)
   | (with_reducible exact impl_CountStep.mono _ _ _)
   | (with_reducible exact impl_FirstRun.mono _ _ _)
   | (with_reducible exact impl_IsSpoke.mono _ _ _)
   | (with_reducible exact impl_IsSymmetric.mono _ _)
   | (with_reducible exact impl_LeastPeriod.mono _ _)
   | (with_reducible exact impl_LongestStep.mono _ _)
   | (with_reducible exact impl_PeriodOfRules.mono _ _)
   | (with_reducible exact impl_RollWheel.mono _ _ _)
   | (with_reducible exact impl_SpokesOf.mono _ _)
   | (with_reducible exact impl_StepSizes.mono _ _)
   | (with_reducible exact impl_StepsOf.mono _ _)
   | (with_reducible exact impl_TimesTogether.mono _ _ _)
   | (with_reducible exact laws_gHas.mono _ _ _)
   | (with_reducible exact laws_gSame.mono _ _ _)
   | (with_reducible exact spec_CountStep.mono _ _ _)
   | (with_reducible exact spec_FirstRun.mono _ _ _)
   | (with_reducible exact spec_IsSymmetric.mono _ _)
   | (with_reducible exact spec_LeastPeriod.mono _ _)
   | (with_reducible exact spec_LongestStep.mono _ _)
   | (with_reducible exact spec_RollWheel.mono _ _ _)
   | (with_reducible exact spec_StepSizes.mono _ _)
   | (with_reducible exact spec_TimesTogether.mono _ _ _)
   | (with_reducible exact LeO.refl _)
   | (with_reducible exact LeO.none _)
   | (with_reducible refine LeO.ite ?_ ?_)
   | (with_reducible refine LeO.bind ?_ (fun _ => ?_))
   | exact ih0 _ _ _ _ _ _ _ _ _ _
   | exact ih1 _ _ _ _ _ _ _ _
   | exact ih2 _ _ _ _ _ _
   | exact ih3 _ _ _ _
   | exact ih4 _ _ _ _ _
   | exact ih5 _ _ _ _ _ _ _
   | exact ih6 _ _ _ _ _ _ _ _ _ _ _ _ _ _ _ _ _ _ _ _ _ _ _ _
   | exact ih7 _ _ _ _ _ _ _ _ _ _ _ _ _ _ _ _ _
   | exact ih8 _ _ _ _ _ _ _ _ _ _ _ _ _ _
   | exact impl_CountSpokes.mono _ _
   | exact impl_CountStep.mono _ _ _
   | exact impl_FirstRun.mono _ _ _
   | exact impl_IsSpoke.mono _ _ _
   | exact impl_IsSymmetric.mono _ _
   | exact impl_LeastPeriod.mono _ _
   | exact impl_LongestStep.mono _ _
   | exact impl_PeriodOfRules.mono _ _
   | exact impl_RollWheel.mono _ _ _
   | exact impl_SpokesOf.mono _ _
   | exact impl_StepSizes.mono _ _
   | exact impl_StepsOf.mono _ _
   | exact impl_TimesTogether.mono _ _ _
   | exact laws_gHas.mono _ _ _
   | exact laws_gSame.mono _ _ _
   | exact spec_CountStep.mono _ _ _
   | exact spec_FirstRun.mono _ _ _
   | exact spec_IsSymmetric.mono _ _
   | exact spec_LeastPeriod.mono _ _
   | exact spec_LongestStep.mono _ _
   | exact spec_RollWheel.mono _ _ _
   | exact spec_StepSizes.mono _ _
   | exact spec_TimesTogether.mono _ _ _
   | exact LeO.none _
   | refine LeO.ite ?_ ?_
   | refine LeO.bind ?_ (fun _ => ?_)
  ·intro y0 y1 y2 y3 y4 y5 y6 y7
   unfold laws_FnStepsAroundOfAll.j4
   repeat' first
   | (with_reducible exact ih0 _ _ _ _ _ _ _ _ _ _)
   | (with_reducible exact ih1 _ _ _ _ _ _ _ _)
   | (with_reducible exact ih2 _ _ _ _ _ _)
   | (with_reducible exact ih3 _ _ _ _)
   | (with_reducible exact ih4 _ _ _ _ _)
   | (with_reducible exact ih5 _ _ _ _ _ _ _)
   | (with_reducible exact ih6 _ _ _ _ _ _ _ _ _ _ _ _ _ _ _ _ _ _ _ _ _ _ _ _)
   | (with_reducible exact ih7 _ _ _ _ _ _ _ _ _ _ _ _ _ _ _ _ _)
   | (with_reducible exact ih8 _ _ _ _ _ _ _ _ _ _ _ _ _ _)
   | (with_reducible exact impl_CountSpokes.mono _ _)
   | (with_reducible exact impl_CountStep.mono _ _ _)
   | (with_reducible exact impl_FirstRun.mono _ _ _)
   | (with_reducible exact impl_IsSpoke.mono _ _ _)
   | (with_reducible exact impl_IsSymmetric.mono _ _)
   | (with_reducible exact impl_LeastPeriod.mono _ _)
   | (with_reducible exact impl_LongestStep.mono _ _)
   | (with_reducible exact impl_PeriodOfRules.mono _ _)
   | (with_reducible exact impl_RollWheel.mono _ _ _)
   | (with_reducible exact impl_SpokesOf.mono _ _)
   | (with_reducible exact impl_StepSizes.mono _ _)
   | (with_reducible exact impl_StepsOf.mono _ _)
   | (with_reducible exact impl_TimesTogether.mono _ _ _)
   | (with_reducible exact laws_gHas.mono _ _ _)
   | (with_reducible exact laws_gSame.mono _ _ _)
   | (with_reducible exact spec_CountStep.mono _ _ _)
   | (with_reducible exact spec_FirstRun.mono _ _ _)
   | (with_reducible exact spec_IsSymmetric.mono _ _)
   | (with_reducible exact spec_LeastPeriod.mono _ _)
   | (with_reducible exact spec_LongestStep.mono _ _)
   | (with_reducible exact spec_RollWheel.mono _ _ _)
   | (with_reducible exact spec_StepSizes.mono _ _)
   | (with_reducible exact spec_TimesTogether.mono _ _ _)
   | (with_reducible exact LeO.refl _)
   | (with_reducible exact LeO.none _)
   | (with_reducible refine LeO.ite ?_ ?_)
   | (with_reducible refine LeO.bind ?_ (fun _ => ?_))
   | exact ih0 _ _ _ _ _ _ _ _ _ _
   | exact ih1 _ _ _ _ _ _ _ _
   | exact ih2 _ _ _ _ _ _
   | exact ih3 _ _ _ _
   | exact ih4 _ _ _ _ _
   | exact ih5 _ _ _ _ _ _ _
   | exact ih6 _ _ _ _ _ _ _ _ _ _ _ _ _ _ _ _ _ _ _ _ _ _ _ _
   | exact ih7 _ _ _ _ _ _ _ _ _ _ _ _ _ _ _ _ _
   | exact ih8 _ _ _ _ _ _ _ _ _ _ _ _ _ _
   | exact impl_CountSpokes.mono _ _
   | exact impl_CountStep.mono _ _ _
   | exact impl_FirstRun.mono _ _ _
   | exact impl_IsSpoke.mono _ _ _
   | exact impl_IsSymmetric.mono _ _
   | exact impl_LeastPeriod.mono _ _
   | exact impl_LongestStep.mono _ _
   | exact impl_PeriodOfRules.mono _ _
   | exact impl_RollWheel.mono _ _ _
   | exact impl_SpokesOf.mono _ _
   | exact impl_StepSizes.mono _ _
   | exact impl_StepsOf.mono _ _
   | exact impl_TimesTogether.mono _ _ _
   | exact laws_gHas.mono _ _ _
   | exact laws_gSame.mono _ _ _
   | exact spec_CountStep.mono _ _ _
   | exact spec_FirstRun.mono _ _ _
   | exact spec_IsSymmetric.mono _ _
   | exact spec_LeastPeriod.mono _ _
   | exact spec_LongestStep.mono _ _
   | exact spec_RollWheel.mono _ _ _
   | exact spec_StepSizes.mono _ _
   | exact spec_TimesTogether.mono _ _ _
   | exact LeO.none _
   | refine LeO.ite ?_ ?_
   | refine LeO.bind ?_ (fun _ => ?_)
  ·intro y0 y1 y2 y3 y4 y5
   unfold laws_FnStepsAroundOfAll.j5
   repeat' first
   | (with_reducible exact ih0 _ _ _ _ _ _ _ _ _ _)
   | (with_reducible exact ih1 _ _ _ _ _ _ _ _)
   | (with_reducible exact ih2 _ _ _ _ _ _)
   | (with_reducible exact ih3 _ _ _ _)
   | (with_reducible exact ih4 _ _ _ _ _)
   | (with_reducible exact ih5 _ _ _ _ _ _ _)
   | (with_reducible exact ih6 _ _ _ _ _ _ _ _ _ _ _ _ _ _ _ _ _ _ _ _ _ _ _ _)
   | (with_reducible exact ih7 _ _ _ _ _ _ _ _ _ _ _ _ _ _ _ _ _)
   | (with_reducible exact ih8 _ _ _ _ _ _ _ _ _ _ _ _ _ _)
   | (with_reducible exact impl_CountSpokes.mono _ _)
   | (with_reducible exact impl_CountStep.mono _ _ _)
   | (with_reducible exact impl_FirstRun.mono _ _ _)
   | (with_reducible exact impl_IsSpoke.mono _ _ _)
   | (with_reducible exact impl_IsSymmetric.mono _ _)
   | (with_reducible exact impl_LeastPeriod.mono _ _)
   | (with_reducible exact impl_LongestStep.mono _ _)
   | (with_reducible exact impl_PeriodOfRules.mono _ _)
   | (with_reducible exact impl_RollWheel.mono _ _ _)
   | (with_reducible exact impl_SpokesOf.mono _ _)
   | (with_reducible exact impl_StepSizes.mono _ _)
   | (with_reducible exact impl_StepsOf.mono _ _)
   | (with_reducible exact impl_TimesTogether.mono _ _ _)
   | (with_reducible exact laws_gHas.mono _ _ _)
   | (with_reducible exact laws_gSame.mono _ _ _)
   | (with_reducible exact spec_CountStep.mono _ _ _)
   | (with_reducible exact spec_FirstRun.mono _ _ _)
   | (with_reducible exact spec_IsSymmetric.mono _ _)
   | (with_reducible exact spec_LeastPeriod.mono _ _)
   | (with_reducible exact spec_LongestStep.mono _ _)
   | (with_reducible exact spec_RollWheel.mono _ _ _)
   | (with_reducible exact spec_StepSizes.mono _ _)
   | (with_reducible exact spec_TimesTogether.mono _ _ _)
   | (with_reducible exact LeO.refl _)
   | (with_reducible exact LeO.none _)
   | (with_reducible refine LeO.ite ?_ ?_)
   | (with_reducible refine LeO.bind ?_ (fun _ => ?_))
   | exact ih0 _ _ _ _ _ _ _ _ _ _
   | exact ih1 _ _ _ _ _ _ _ _
   | exact ih2 _ _ _ _ _ _
   | exact ih3 _ _ _ _
   | exact ih4 _ _ _ _ _
   | exact ih5 _ _ _ _ _ _ _
   | exact ih6 _ _ _ _ _ _ _ _ _ _ _ _ _ _ _ _ _ _ _ _ _ _ _ _
   | exact ih7 _ _ _ _ _ _ _ _ _ _ _ _ _ _ _ _ _
   | exact ih8 _ _ _ _ _ _ _ _ _ _ _ _ _ _
   | exact impl_CountSpokes.mono _ _
   | exact impl_CountStep.mono _ _ _
   | exact impl_FirstRun.mono _ _ _
   | exact impl_IsSpoke.mono _ _ _
   | exact impl_IsSymmetric.mono _ _
   | exact impl_LeastPeriod.mono _ _
   | exact impl_LongestStep.mono _ _
   | exact impl_PeriodOfRules.mono _ _
   | exact impl_RollWheel.mono _ _ _
   | exact impl_SpokesOf.mono _ _
   | exact impl_StepSizes.mono _ _
   | exact impl_StepsOf.mono _ _
   | exact impl_TimesTogether.mono _ _ _
   | exact laws_gHas.mono _ _ _
   | exact laws_gSame.mono _ _ _
   | exact spec_CountStep.mono _ _ _
   | exact spec_FirstRun.mono _ _ _
   | exact spec_IsSymmetric.mono _ _
   | exact spec_LeastPeriod.mono _ _
   | exact spec_LongestStep.mono _ _
   | exact spec_RollWheel.mono _ _ _
   | exact spec_StepSizes.mono _ _
   | exact spec_TimesTogether.mono _ _ _
   | exact LeO.none _
   | refine LeO.ite ?_ ?_
   | refine LeO.bind ?_ (fun _ => ?_)
  ·intro y0 y1 y2 y3
   unfold laws_FnStepsAroundOfAll.j6
   repeat' first
   | (with_reducible exact ih0 _ _ _ _ _ _ _ _ _ _)
   | (with_reducible exact ih1 _ _ _ _ _ _ _ _)
   | (with_reducible exact ih2 _ _ _ _ _ _)
   | (with_reducible exact ih3 _ _ _ _)
   | (with_reducible exact ih4 _ _ _ _ _)
   | (with_reducible exact ih5 _ _ _ _ _ _ _)
   | (with_reducible exact ih6 _ _ _ _ _ _ _ _ _ _ _ _ _ _ _ _ _ _ _ _ _ _ _ _)
   | (with_reducible exact ih7 _ _ _ _ _ _ _ _ _ _ _ _ _ _ _ _ _)
   | (with_reducible exact ih8 _ _ _ _ _ _ _ _ _ _ _ _ _ _)
   | (with_reducible exact impl_CountSpokes.mono _ _)
   | (with_reducible exact impl_CountStep.mono _ _ _)
   | (with_reducible exact impl_FirstRun.mono _ _ _)
   | (with_reducible exact impl_IsSpoke.mono _ _ _)
   | (with_reducible exact impl_IsSymmetric.mono _ _)
   | (with_reducible exact impl_LeastPeriod.mono _ _)
   | (with_reducible exact impl_LongestStep.mono _ _)
   | (with_reducible exact impl_PeriodOfRules.mono _ _)
   | (with_reducible exact impl_RollWheel.mono _ _ _)
   | (with_reducible exact impl_SpokesOf.mono _ _)
   | (with_reducible exact impl_StepSizes.mono _ _)
   | (with_reducible exact impl_StepsOf.mono _ _)
   | (with_reducible exact impl_TimesTogether.mono _ _ _)
   | (with_reducible exact laws_gHas.mono _ _ _)
   | (with_reducible exact laws_gSame.mono _ _ _)
   | (with_reducible exact spec_CountStep.mono _ _ _)
   | (with_reducible exact spec_FirstRun.mono _ _ _)
   | (with_reducible exact spec_IsSymmetric.mono _ _)
   | (with_reducible exact spec_LeastPeriod.mono _ _)
   | (with_reducible exact spec_LongestStep.mono _ _)
   | (with_reducible exact spec_RollWheel.mono _ _ _)
   | (with_reducible exact spec_StepSizes.mono _ _)
   | (with_reducible exact spec_TimesTogether.mono _ _ _)
   | (with_reducible exact LeO.refl _)
   | (with_reducible exact LeO.none _)
   | (with_reducible refine LeO.ite ?_ ?_)
   | (with_reducible refine LeO.bind ?_ (fun _ => ?_))
   | exact ih0 _ _ _ _ _ _ _ _ _ _
   | exact ih1 _ _ _ _ _ _ _ _
   | exact ih2 _ _ _ _ _ _
   | exact ih3 _ _ _ _
   | exact ih4 _ _ _ _ _
   | exact ih5 _ _ _ _ _ _ _
   | exact ih6 _ _ _ _ _ _ _ _ _ _ _ _ _ _ _ _ _ _ _ _ _ _ _ _
   | exact ih7 _ _ _ _ _ _ _ _ _ _ _ _ _ _ _ _ _
   | exact ih8 _ _ _ _ _ _ _ _ _ _ _ _ _ _
   | exact impl_CountSpokes.mono _ _
   | exact impl_CountStep.mono _ _ _
   | exact impl_FirstRun.mono _ _ _
   | exact impl_IsSpoke.mono _ _ _
   | exact impl_IsSymmetric.mono _ _
   | exact impl_LeastPeriod.mono _ _
   | exact impl_LongestStep.mono _ _
   | exact impl_PeriodOfRules.mono _ _
   | exact impl_RollWheel.mono _ _ _
   | exact impl_SpokesOf.mono _ _
   | exact impl_StepSizes.mono _ _
   | exact impl_StepsOf.mono _ _
   | exact impl_TimesTogether.mono _ _ _
   | exact laws_gHas.mono _ _ _
   | exact laws_gSame.mono _ _ _
   | exact spec_CountStep.mono _ _ _
   | exact spec_FirstRun.mono _ _ _
   | exact spec_IsSymmetric.mono _ _
   | exact spec_LeastPeriod.mono _ _
   | exact spec_LongestStep.mono _ _
   | exact spec_RollWheel.mono _ _ _
   | exact spec_StepSizes.mono _ _
   | exact spec_TimesTogether.mono _ _ _
   | exact LeO.none _
   | refine LeO.ite ?_ ?_
   | refine LeO.bind ?_ (fun _ => ?_)
  ·intro y0 y1 y2 y3 y4
   unfold laws_FnStepsAroundOfAll.l3
   repeat' first
   | (with_reducible exact ih0 _ _ _ _ _ _ _ _ _ _)
   | (with_reducible exact ih1 _ _ _ _ _ _ _ _)
   | (with_reducible exact ih2 _ _ _ _ _ _)
   | (with_reducible exact ih3 _ _ _ _)
   | (with_reducible exact ih4 _ _ _ _ _)
   | (with_reducible exact ih5 _ _ _ _ _ _ _)
   | (with_reducible exact ih6 _ _ _ _ _ _ _ _ _ _ _ _ _ _ _ _ _ _ _ _ _ _ _ _)
   | (with_reducible exact ih7 _ _ _ _ _ _ _ _ _ _ _ _ _ _ _ _ _)
   | (with_reducible exact ih8 _ _ _ _ _ _ _ _ _ _ _ _ _ _)
   | (with_reducible exact impl_CountSpokes.mono _ _)
   | (with_reducible exact impl_CountStep.mono _ _ _)
   | (with_reducible exact impl_FirstRun.mono _ _ _)
   | (with_reducible exact impl_IsSpoke.mono _ _ _)
   | (with_reducible exact impl_IsSymmetric.mono _ _)
   | (with_reducible exact impl_LeastPeriod.mono _ _)
   | (with_reducible exact impl_LongestStep.mono _ _)
   | (with_reducible exact impl_PeriodOfRules.mono _ _)
   | (with_reducible exact impl_RollWheel.mono _ _ _)
   | (with_reducible exact impl_SpokesOf.mono _ _)
   | (with_reducible exact impl_StepSizes.mono _ _)
   | (with_reducible exact impl_StepsOf.mono _ _)
   | (with_reducible exact impl_TimesTogether.mono _ _ _)
   | (with_reducible exact laws_gHas.mono _ _ _)
   | (with_reducible exact laws_gSame.mono _ _ _)
   | (with_reducible exact spec_CountStep.mono _ _ _)
   | (with_reducible exact spec_FirstRun.mono _ _ _)
   | (with_reducible exact spec_IsSymmetric.mono _ _)
   | (with_reducible exact spec_LeastPeriod.mono _ _)
   | (with_reducible exact spec_LongestStep.mono _ _)
   | (with_reducible exact spec_RollWheel.mono _ _ _)
   | (with_reducible exact spec_StepSizes.mono _ _)
   | (with_reducible exact spec_TimesTogether.mono _ _ _)
   | (with_reducible exact LeO.refl _)
   | (with_reducible exact LeO.none _)
   | (with_reducible refine LeO.ite ?_ ?_)
   | (with_reducible refine LeO.bind ?_ (fun _ => ?_))
   | exact ih0 _ _ _ _ _ _ _ _ _ _
   | exact ih1 _ _ _ _ _ _ _ _
   | exact ih2 _ _ _ _ _ _
   | exact ih3 _ _ _ _
   | exact ih4 _ _ _ _ _
   | exact ih5 _ _ _ _ _ _ _
   | exact ih6 _ _ _ _ _ _ _ _ _ _ _ _ _ _ _ _ _ _ _ _ _ _ _ _
   | exact ih7 _ _ _ _ _ _ _ _ _ _ _ _ _ _ _ _ _
   | exact ih8 _ _ _ _ _ _ _ _ _ _ _ _ _ _
   | exact impl_CountSpokes.mono _ _
   | exact impl_CountStep.mono _ _ _
   | exact impl_FirstRun.mono _ _ _
   | exact impl_IsSpoke.mono _ _ _
   | exact impl_IsSymmetric.mono _ _
   | exact impl_LeastPeriod.mono _ _
   | exact impl_LongestStep.mono _ _
   | exact impl_PeriodOfRules.mono _ _
   | exact impl_RollWheel.mono _ _ _
   | exact impl_SpokesOf.mono _ _
   | exact impl_StepSizes.mono _ _
   | exact impl_StepsOf.mono _ _
   | exact impl_TimesTogether.mono _ _ _
   | exact laws_gHas.mono _ _ _
   | exact laws_gSame.mono _ _ _
   | exact spec_CountStep.mono _ _ _
   | exact spec_FirstRun.mono _ _ _
   | exact spec_IsSymmetric.mono _ _
   | exact spec_LeastPeriod.mono _ _
   | exact spec_LongestStep.mono _ _
   | exact spec_RollWheel.mono _ _ _
   | exact spec_StepSizes.mono _ _
   | exact spec_TimesTogether.mono _ _ _
   | exact LeO.none _
   | refine LeO.ite ?_ ?_
   | refine LeO.bind ?_ (fun _ => ?_)
  ·intro y0 y1 y2 y3 y4 y5 y6
   unfold laws_FnStepsAroundOfAll.l4
   repeat' first
   | (with_reducible exact ih0 _ _ _ _ _ _ _ _ _ _)
   | (with_reducible exact ih1 _ _ _ _ _ _ _ _)
   | (with_reducible exact ih2 _ _ _ _ _ _)
   | (with_reducible exact ih3 _ _ _ _)
   | (with_reducible exact ih4 _ _ _ _ _)
   | (with_reducible exact ih5 _ _ _ _ _ _ _)
   | (with_reducible exact ih6 _ _ _ _ _ _ _ _ _ _ _ _ _ _ _ _ _ _ _ _ _ _ _ _)
   | (with_reducible exact ih7 _ _ _ _ _ _ _ _ _ _ _ _ _ _ _ _ _)
   | (with_reducible exact ih8 _ _ _ _ _ _ _ _ _ _ _ _ _ _)
   | (with_reducible exact impl_CountSpokes.mono _ _)
   | (with_reducible exact impl_CountStep.mono _ _ _)
   | (with_reducible exact impl_FirstRun.mono _ _ _)
   | (with_reducible exact impl_IsSpoke.mono _ _ _)
   | (with_reducible exact impl_IsSymmetric.mono _ _)
   | (with_reducible exact impl_LeastPeriod.mono _ _)
   | (with_reducible exact impl_LongestStep.mono _ _)
   | (with_reducible exact impl_PeriodOfRules.mono _ _)
   | (with_reducible exact impl_RollWheel.mono _ _ _)
   | (with_reducible exact impl_SpokesOf.mono _ _)
   | (with_reducible exact impl_StepSizes.mono _ _)
   | (with_reducible exact impl_StepsOf.mono _ _)
   | (with_reducible exact impl_TimesTogether.mono _ _ _)
   | (with_reducible exact laws_gHas.mono _ _ _)
   | (with_reducible exact laws_gSame.mono _ _ _)
   | (with_reducible exact spec_CountStep.mono _ _ _)
   | (with_reducible exact spec_FirstRun.mono _ _ _)
   | (with_reducible exact spec_IsSymmetric.mono _ _)
   | (with_reducible exact spec_LeastPeriod.mono _ _)
   | (with_reducible exact spec_LongestStep.mono _ _)
   | (with_reducible exact spec_RollWheel.mono _ _ _)
   | (with_reducible exact spec_StepSizes.mono _ _)
   | (with_reducible exact spec_TimesTogether.mono _ _ _)
   | (with_reducible exact LeO.refl _)
   | (with_reducible exact LeO.none _)
   | (with_reducible refine LeO.ite ?_ ?_)
   | (with_reducible refine LeO.bind ?_ (fun _ => ?_))
   | exact ih0 _ _ _ _ _ _ _ _ _ _
   | exact ih1 _ _ _ _ _ _ _ _
   | exact ih2 _ _ _ _ _ _
   | exact ih3 _ _ _ _
   | exact ih4 _ _ _ _ _
   | exact ih5 _ _ _ _ _ _ _
   | exact ih6 _ _ _ _ _ _ _ _ _ _ _ _ _ _ _ _ _ _ _ _ _ _ _ _
   | exact ih7 _ _ _ _ _ _ _ _ _ _ _ _ _ _ _ _ _
   | exact ih8 _ _ _ _ _ _ _ _ _ _ _ _ _ _
   | exact impl_CountSpokes.mono _ _
   | exact impl_CountStep.mono _ _ _
   | exact impl_FirstRun.mono _ _ _
   | exact impl_IsSpoke.mono _ _ _
   | exact impl_IsSymmetric.mono _ _
   | exact impl_LeastPeriod.mono _ _
   | exact impl_LongestStep.mono _ _
   | exact impl_PeriodOfRules.mono _ _
   | exact impl_RollWheel.mono _ _ _
   | exact impl_SpokesOf.mono _ _
   | exact impl_StepSizes.mono _ _
   | exact impl_StepsOf.mono _ _
   | exact impl_TimesTogether.mono _ _ _
   | exact laws_gHas.mono _ _ _
   | exact laws_gSame.mono _ _ _
   | exact spec_CountStep.mono _ _ _
   | exact spec_FirstRun.mono _ _ _
   | exact spec_IsSymmetric.mono _ _
   | exact spec_LeastPeriod.mono _ _
   | exact spec_LongestStep.mono _ _
   | exact spec_RollWheel.mono _ _ _
   | exact spec_StepSizes.mono _ _
   | exact spec_TimesTogether.mono _ _ _
   | exact LeO.none _
   | refine LeO.ite ?_ ?_
   | refine LeO.bind ?_ (fun _ => ?_)
  ·intro y0 y1 y2 y3 y4 y5 y6 y7 y8 y9 y10 y11 y12 y13 y14 y15 y16 y17 y18 y19 y20 y21 y22 y23
   unfold laws_FnStepsAroundOfAll.l0
   repeat' first
   | (with_reducible exact ih0 _ _ _ _ _ _ _ _ _ _)
   | (with_reducible exact ih1 _ _ _ _ _ _ _ _)
   | (with_reducible exact ih2 _ _ _ _ _ _)
   | (with_reducible exact ih3 _ _ _ _)
   | (with_reducible exact ih4 _ _ _ _ _)
   | (with_reducible exact ih5 _ _ _ _ _ _ _)
   | (with_reducible exact ih6 _ _ _ _ _ _ _ _ _ _ _ _ _ _ _ _ _ _ _ _ _ _ _ _)
   | (with_reducible exact ih7 _ _ _ _ _ _ _ _ _ _ _ _ _ _ _ _ _)
   | (with_reducible exact ih8 _ _ _ _ _ _ _ _ _ _ _ _ _ _)
   | (with_reducible exact impl_CountSpokes.mono _ _)
   | (with_reducible exact impl_CountStep.mono _ _ _)
   | (with_reducible exact impl_FirstRun.mono _ _ _)
   | (with_reducible exact impl_IsSpoke.mono _ _ _)
   | (with_reducible exact impl_IsSymmetric.mono _ _)
   | (with_reducible exact impl_LeastPeriod.mono _ _)
   | (with_reducible exact impl_LongestStep.mono _ _)
   | (with_reducible exact impl_PeriodOfRules.mono _ _)
   | (with_reducible exact impl_RollWheel.mono _ _ _)
   | (with_reducible exact impl_SpokesOf.mono _ _)
   | (with_reducible exact impl_StepSizes.mono _ _)
   | (with_reducible exact impl_StepsOf.mono _ _)
   | (with_reducible exact impl_TimesTogether.mono _ _ _)
   | (with_reducible exact laws_gHas.mono _ _ _)
   | (with_reducible exact laws_gSame.mono _ _ _)
   | (with_reducible exact spec_CountStep.mono _ _ _)
   | (with_reducible exact spec_FirstRun.mono _ _ _)
   | (with_reducible exact spec_IsSymmetric.mono _ _)
   | (with_reducible exact spec_LeastPeriod.mono _ _)
   | (with_reducible exact spec_LongestStep.mono _ _)
   | (with_reducible exact spec_RollWheel.mono _ _ _)
   | (with_reducible exact spec_StepSizes.mono _ _)
   | (with_reducible exact spec_TimesTogether.mono _ _ _)
   | (with_reducible exact LeO.refl _)
   | (with_reducible exact LeO.none _)
   | (with_reducible refine LeO.ite ?_ ?_)
   | (with_reducible refine LeO.bind ?_ (fun _ => ?_))
   | exact ih0 _ _ _ _ _ _ _ _ _ _
   | exact ih1 _ _ _ _ _ _ _ _
   | exact ih2 _ _ _ _ _ _
   | exact ih3 _ _ _ _
   | exact ih4 _ _ _ _ _
   | exact ih5 _ _ _ _ _ _ _
   | exact ih6 _ _ _ _ _ _ _ _ _ _ _ _ _ _ _ _ _ _ _ _ _ _ _ _
   | exact ih7 _ _ _ _ _ _ _ _ _ _ _ _ _ _ _ _ _
   | exact ih8 _ _ _ _ _ _ _ _ _ _ _ _ _ _
   | exact impl_CountSpokes.mono _ _
   | exact impl_CountStep.mono _ _ _
   | exact impl_FirstRun.mono _ _ _
   | exact impl_IsSpoke.mono _ _ _
   | exact impl_IsSymmetric.mono _ _
   | exact impl_LeastPeriod.mono _ _
   | exact impl_LongestStep.mono _ _
   | exact impl_PeriodOfRules.mono _ _
   | exact impl_RollWheel.mono _ _ _
   | exact impl_SpokesOf.mono _ _
   | exact impl_StepSizes.mono _ _
   | exact impl_StepsOf.mono _ _
   | exact impl_TimesTogether.mono _ _ _
   | exact laws_gHas.mono _ _ _
   | exact laws_gSame.mono _ _ _
   | exact spec_CountStep.mono _ _ _
   | exact spec_FirstRun.mono _ _ _
   | exact spec_IsSymmetric.mono _ _
   | exact spec_LeastPeriod.mono _ _
   | exact spec_LongestStep.mono _ _
   | exact spec_RollWheel.mono _ _ _
   | exact spec_StepSizes.mono _ _
   | exact spec_TimesTogether.mono _ _ _
   | exact LeO.none _
   | refine LeO.ite ?_ ?_
   | refine LeO.bind ?_ (fun _ => ?_)
  ·intro y0 y1 y2 y3 y4 y5 y6 y7 y8 y9 y10 y11 y12 y13 y14 y15 y16
   unfold laws_FnStepsAroundOfAll.l1
   repeat' first
   | (with_reducible exact ih0 _ _ _ _ _ _ _ _ _ _)
   | (with_reducible exact ih1 _ _ _ _ _ _ _ _)
   | (with_reducible exact ih2 _ _ _ _ _ _)
   | (with_reducible exact ih3 _ _ _ _)
   | (with_reducible exact ih4 _ _ _ _ _)
   | (with_reducible exact ih5 _ _ _ _ _ _ _)
   | (with_reducible exact ih6 _ _ _ _ _ _ _ _ _ _ _ _ _ _ _ _ _ _ _ _ _ _ _ _)
   | (with_reducible exact ih7 _ _ _ _ _ _ _ _ _ _ _ _ _ _ _ _ _)
   | (with_reducible exact ih8 _ _ _ _ _ _ _ _ _ _ _ _ _ _)
   | (with_reducible exact impl_CountSpokes.mono _ _)
   | (with_reducible exact impl_CountStep.mono _ _ _)
   | (with_reducible exact impl_FirstRun.mono _ _ _)
   | (with_reducible exact impl_IsSpoke.mono _ _ _)
   | (with_reducible exact impl_IsSymmetric.mono _ _)
   | (with_reducible exact impl_LeastPeriod.mono _ _)
   | (with_reducible exact impl_LongestStep.mono _ _)
   | (with_reducible exact impl_PeriodOfRules.mono _ _)
   | (with_reducible exact impl_RollWheel.mono _ _ _)
   | (with_reducible exact impl_SpokesOf.mono _ _)
   | (with_reducible exact impl_StepSizes.mono _ _)
   | (with_reducible exact impl_StepsOf.mono _ _)
   | (with_reducible exact impl_TimesTogether.mono _ _ _)
   | (with_reducible exact laws_gHas.mono _ _ _)
   | (with_reducible exact laws_gSame.mono _ _ _)
   | (with_reducible exact spec_CountStep.mono _ _ _)
   | (with_reducible exact spec_FirstRun.mono _ _ _)
   | (with_reducible exact spec_IsSymmetric.mono _ _)
   | (with_reducible exact spec_LeastPeriod.mono _ _)
   | (with_reducible exact spec_LongestStep.mono _ _)
   | (with_reducible exact spec_RollWheel.mono _ _ _)
   | (with_reducible exact spec_StepSizes.mono _ _)
   | (with_reducible exact spec_TimesTogether.mono _ _ _)
   | (with_reducible exact LeO.refl _)
   | (with_reducible exact LeO.none _)
   | (with_reducible refine LeO.ite ?_ ?_)
   | (with_reducible refine LeO.bind ?_ (fun _ => ?_))
   | exact ih0 _ _ _ _ _ _ _ _ _ _
   | exact ih1 _ _ _ _ _ _ _ _
   | exact ih2 _ _ _ _ _ _
   | exact ih3 _ _ _ _
   | exact ih4 _ _ _ _ _
   | exact ih5 _ _ _ _ _ _ _
   | exact ih6 _ _ _ _ _ _ _ _ _ _ _ _ _ _ _ _ _ _ _ _ _ _ _ _
   | exact ih7 _ _ _ _ _ _ _ _ _ _ _ _ _ _ _ _ _
   | exact ih8 _ _ _ _ _ _ _ _ _ _ _ _ _ _
   | exact impl_CountSpokes.mono _ _
   | exact impl_CountStep.mono _ _ _
   | exact impl_FirstRun.mono _ _ _
   | exact impl_IsSpoke.mono _ _ _
   | exact impl_IsSymmetric.mono _ _
   | exact impl_LeastPeriod.mono _ _
   | exact impl_LongestStep.mono _ _
   | exact impl_PeriodOfRules.mono _ _
   | exact impl_RollWheel.mono _ _ _
   | exact impl_SpokesOf.mono _ _
   | exact impl_StepSizes.mono _ _
   | exact impl_StepsOf.mono _ _
   | exact impl_TimesTogether.mono _ _ _
   | exact laws_gHas.mono _ _ _
   | exact laws_gSame.mono _ _ _
   | exact spec_CountStep.mono _ _ _
   | exact spec_FirstRun.mono _ _ _
   | exact spec_IsSymmetric.mono _ _
   | exact spec_LeastPeriod.mono _ _
   | exact spec_LongestStep.mono _ _
   | exact spec_RollWheel.mono _ _ _
   | exact spec_StepSizes.mono _ _
   | exact spec_TimesTogether.mono _ _ _
   | exact LeO.none _
   | refine LeO.ite ?_ ?_
   | refine LeO.bind ?_ (fun _ => ?_)
  ·intro y0 y1 y2 y3 y4 y5 y6 y7 y8 y9 y10 y11 y12 y13
   unfold laws_FnStepsAroundOfAll.l2
   repeat' first
   | (with_reducible exact ih0 _ _ _ _ _ _ _ _ _ _)
   | (with_reducible exact ih1 _ _ _ _ _ _ _ _)
   | (with_reducible exact ih2 _ _ _ _ _ _)
   | (with_reducible exact ih3 _ _ _ _)
   | (with_reducible exact ih4 _ _ _ _ _)
   | (with_reducible exact ih5 _ _ _ _ _ _ _)
   | (with_reducible exact ih6 _ _ _ _ _ _ _ _ _ _ _ _ _ _ _ _ _ _ _ _ _ _ _ _)
   | (with_reducible exact ih7 _ _ _ _ _ _ _ _ _ _ _ _ _ _ _ _ _)
   | (with_reducible exact ih8 _ _ _ _ _ _ _ _ _ _ _ _ _ _)
   | (with_reducible exact impl_CountSpokes.mono _ _)
   | (with_reducible exact impl_CountStep.mono _ _ _)
   | (with_reducible exact impl_FirstRun.mono _ _ _)
   | (with_reducible exact impl_IsSpoke.mono _ _ _)
   | (with_reducible exact impl_IsSymmetric.mono _ _)
   | (with_reducible exact impl_LeastPeriod.mono _ _)
   | (with_reducible exact impl_LongestStep.mono _ _)
   | (with_reducible exact impl_PeriodOfRules.mono _ _)
   | (with_reducible exact impl_RollWheel.mono _ _ _)
   | (with_reducible exact impl_SpokesOf.mono _ _)
   | (with_reducible exact impl_StepSizes.mono _ _)
   | (with_reducible exact impl_StepsOf.mono _ _)
   | (with_reducible exact impl_TimesTogether.mono _ _ _)
   | (with_reducible exact laws_gHas.mono _ _ _)
   | (with_reducible exact laws_gSame.mono _ _ _)
   | (with_reducible exact spec_CountStep.mono _ _ _)
   | (with_reducible exact spec_FirstRun.mono _ _ _)
   | (with_reducible exact spec_IsSymmetric.mono _ _)
   | (with_reducible exact spec_LeastPeriod.mono _ _)
   | (with_reducible exact spec_LongestStep.mono _ _)
   | (with_reducible exact spec_RollWheel.mono _ _ _)
   | (with_reducible exact spec_StepSizes.mono _ _)
   | (with_reducible exact spec_TimesTogether.mono _ _ _)
   | (with_reducible exact LeO.refl _)
   | (with_reducible exact LeO.none _)
   | (with_reducible refine LeO.ite ?_ ?_)
   | (with_reducible refine LeO.bind ?_ (fun _ => ?_))
   | exact ih0 _ _ _ _ _ _ _ _ _ _
   | exact ih1 _ _ _ _ _ _ _ _
   | exact ih2 _ _ _ _ _ _
   | exact ih3 _ _ _ _
   | exact ih4 _ _ _ _ _
   | exact ih5 _ _ _ _ _ _ _
   | exact ih6 _ _ _ _ _ _ _ _ _ _ _ _ _ _ _ _ _ _ _ _ _ _ _ _
   | exact ih7 _ _ _ _ _ _ _ _ _ _ _ _ _ _ _ _ _
   | exact ih8 _ _ _ _ _ _ _ _ _ _ _ _ _ _
   | exact impl_CountSpokes.mono _ _
   | exact impl_CountStep.mono _ _ _
   | exact impl_FirstRun.mono _ _ _
   | exact impl_IsSpoke.mono _ _ _
   | exact impl_IsSymmetric.mono _ _
   | exact impl_LeastPeriod.mono _ _
   | exact impl_LongestStep.mono _ _
   | exact impl_PeriodOfRules.mono _ _
   | exact impl_RollWheel.mono _ _ _
   | exact impl_SpokesOf.mono _ _
   | exact impl_StepSizes.mono _ _
   | exact impl_StepsOf.mono _ _
   | exact impl_TimesTogether.mono _ _ _
   | exact laws_gHas.mono _ _ _
   | exact laws_gSame.mono _ _ _
   | exact spec_CountStep.mono _ _ _
   | exact spec_FirstRun.mono _ _ _
   | exact spec_IsSymmetric.mono _ _
   | exact spec_LeastPeriod.mono _ _
   | exact spec_LongestStep.mono _ _
   | exact spec_RollWheel.mono _ _ _
   | exact spec_StepSizes.mono _ _
   | exact spec_TimesTogether.mono _ _ _
   | exact LeO.none _
   | refine LeO.ite ?_ ?_
   | refine LeO.bind ?_ (fun _ => ?_)
theorem laws_FnStepsAroundOfAll.mono : ∀ a0 a1 a2 a3 a4 a5 a6 a7 a8 k, LeO (laws_FnStepsAroundOfAll.f k a0 a1 a2 a3 a4 a5 a6 a7 a8) (laws_FnStepsAroundOfAll.f (k + 1) a0 a1 a2 a3 a4 a5 a6 a7 a8) := by
 intro a0 a1 a2 a3 a4 a5 a6 a7 a8 k
 obtain ⟨ih0, ih1, ih2, ih3, ih4, ih5, ih6, ih7, ih8⟩ := laws_FnStepsAroundOfAll.mono_l k
 unfold laws_FnStepsAroundOfAll.f
 repeat' first
   | (with_reducible exact ih0 _ _ _ _ _ _ _ _ _ _)
   | (with_reducible exact ih1 _ _ _ _ _ _ _ _)
   | (with_reducible exact ih2 _ _ _ _ _ _)
   | (with_reducible exact ih3 _ _ _ _)
   | (with_reducible exact ih4 _ _ _ _ _)
   | (with_reducible exact ih5 _ _ _ _ _ _ _)
   | (with_reducible exact ih6 _ _ _ _ _ _ _ _ _ _ _ _ _ _ _ _ _ _ _ _ _ _ _ _)
   | (with_reducible exact ih7 _ _ _ _ _ _ _ _ _ _ _ _ _ _ _ _ _)
   | (with_reducible exact ih8 _ _ _ _ _ _ _ _ _ _ _ _ _ _)
   | (with_reducible exact impl_CountSpokes.mono _ _)
   | (with_reducible exact impl_CountStep.mono _ _ _)
   | (with_reducible exact impl_FirstRun.mono _ _ _)
   | (with_reducible exact impl_IsSpoke.mono _ _ _)
   | (with_reducible exact impl_IsSymmetric.mono _ _)
   | (with_reducible exact impl_LeastPeriod.mono _ _)
   | (with_reducible exact impl_LongestStep.mono _ _)
   | (with_reducible exact impl_PeriodOfRules.mono _ _)
   | (with_reducible exact impl_RollWheel.mono _ _ _)
   | (with_reducible exact impl_SpokesOf.mono _ _)
   | (with_reducible exact impl_StepSizes.mono _ _)
   | (with_reducible exact impl_StepsOf.mono _ _)
   | (with_reducible exact impl_TimesTogether.mono _ _ _)
   | (with_reducible exact laws_gHas.mono _ _ _)
   | (with_reducible exact laws_gSame.mono _ _ _)
   | (with_reducible exact spec_CountStep.mono _ _ _)
   | (with_reducible exact spec_FirstRun.mono _ _ _)
   | (with_reducible exact spec_IsSymmetric.mono _ _)
   | (with_reducible exact spec_LeastPeriod.mono _ _)
   | (with_reducible exact spec_LongestStep.mono _ _)
   | (with_reducible exact spec_RollWheel.mono _ _ _)
   | (with_reducible exact spec_StepSizes.mono _ _)
   | (with_reducible exact spec_TimesTogether.mono _ _ _)
   | (with_reducible exact LeO.refl _)
   | (with_reducible exact LeO.none _)
   | (with_reducible refine LeO.ite ?_ ?_)
   | (with_reducible refine LeO.bind ?_ (fun _ => ?_))
   | exact ih0 _ _ _ _ _ _ _ _ _ _
   | exact ih1 _ _ _ _ _ _ _ _
   | exact ih2 _ _ _ _ _ _
   | exact ih3 _ _ _ _
   | exact ih4 _ _ _ _ _
   | exact ih5 _ _ _ _ _ _ _
   | exact ih6 _ _ _ _ _ _ _ _ _ _ _ _ _ _ _ _ _ _ _ _ _ _ _ _
   | exact ih7 _ _ _ _ _ _ _ _ _ _ _ _ _ _ _ _ _
   | exact ih8 _ _ _ _ _ _ _ _ _ _ _ _ _ _
   | exact impl_CountSpokes.mono _ _
   | exact impl_CountStep.mono _ _ _
   | exact impl_FirstRun.mono _ _ _
   | exact impl_IsSpoke.mono _ _ _
   | exact impl_IsSymmetric.mono _ _
   | exact impl_LeastPeriod.mono _ _
   | exact impl_LongestStep.mono _ _
   | exact impl_PeriodOfRules.mono _ _
   | exact impl_RollWheel.mono _ _ _
   | exact impl_SpokesOf.mono _ _
   | exact impl_StepSizes.mono _ _
   | exact impl_StepsOf.mono _ _
   | exact impl_TimesTogether.mono _ _ _
   | exact laws_gHas.mono _ _ _
   | exact laws_gSame.mono _ _ _
   | exact spec_CountStep.mono _ _ _
   | exact spec_FirstRun.mono _ _ _
   | exact spec_IsSymmetric.mono _ _
   | exact spec_LeastPeriod.mono _ _
   | exact spec_LongestStep.mono _ _
   | exact spec_RollWheel.mono _ _ _
   | exact spec_StepSizes.mono _ _
   | exact spec_TimesTogether.mono _ _ _
   | exact LeO.none _
   | refine LeO.ite ?_ ?_
   | refine LeO.bind ?_ (fun _ => ?_)
set_option maxHeartbeats 100000000 in
set_option maxRecDepth 100000 in
theorem laws_FnStepsAroundOfAll.calls (k : Nat) (A0 : Option Addr) (c0 : Nat) (l0 : List (S45)) (A1 : Option Addr) (c1 : Nat) (l1 : List (S45)) (a2 : Int) (A3 : Option Addr) (c3 : Nat) (l3 : List (S45)) (a4 : Int) (A5 : Option Addr) (c5 : Nat) (l5 : List (S45)) (a6 : Int) (A7 : Option Addr) (c7 : Nat) (l7 : List (S45)) (A8 : Option Addr) (c8 : Nat) (l8 : List Int) (r : Bool) (w : World) (hr0 : Kd.C k45 w A0 l0.length l0) (hc0 : l0.length ≤ c0) (hr1 : Kd.C k45 w A1 l1.length l1) (hc1 : l1.length ≤ c1) (hr3 : Kd.C k45 w A3 l3.length l3) (hc3 : l3.length ≤ c3) (hr5 : Kd.C k45 w A5 l5.length l5) (hc5 : l5.length ≤ c5) (hr7 : Kd.C k45 w A7 l7.length l7) (hc7 : l7.length ≤ c7) (hr8 : Kd.C (Kd.int .i64) w A8 l8.length l8) (hc8 : l8.length ≤ c8) (h : laws_FnStepsAroundOfAll.f k l0 l1 a2 l3 a4 l5 a6 l7 l8 = some r) :
  Calls Try.prog 6 #[.slice A0 l0.length c0, .slice A1 l1.length c1, .int .i64 a2, .slice A3 l3.length c3, .int .i64 a4, .slice A5 l5.length c5, .int .i64 a6, .slice A7 l7.length c7, .slice A8 l8.length c8] w fun e w' => e = .returned (.bool r) ∧ Below w.heap.size w w' := by
 have hu45 := Try.underlying45
 have HR0 := Aside0.mk hr0
 have HC0 := Aside0.mk hc0
 clear hr0 hc0
 have HR1 := Aside0.mk hr1
 have HC1 := Aside0.mk hc1
 clear hr1 hc1
 have HR3 := Aside0.mk hr3
 have HC3 := Aside0.mk hc3
 clear hr3 hc3
 have HR5 := Aside0.mk hr5
 have HC5 := Aside0.mk hc5
 clear hr5 hc5
 have HR7 := Aside0.mk hr7
 have HC7 := Aside0.mk hc7
 clear hr7 hc7
 have HR8 := Aside0.mk hr8
 have HC8 := Aside0.mk hc8
 clear hr8 hc8
 have HB := Aside0.mk (Below.refl w.heap.size w)
 have H : (if (l0.length : Int) > 10000 then (laws_FnStepsAroundOfAll.j0 k l0 l1 a2 l3 a4 l5 a6 l7 l8 true) else (if (l1.length : Int) > 10000 then (laws_FnStepsAroundOfAll.j0 k l0 l1 a2 l3 a4 l5 a6 l7 l8 true) else (if (l3.length : Int) > 10000 then (laws_FnStepsAroundOfAll.j0 k l0 l1 a2 l3 a4 l5 a6 l7 l8 true) else (if (l5.length : Int) > 10000 then (laws_FnStepsAroundOfAll.j0 k l0 l1 a2 l3 a4 l5 a6 l7 l8 true) else (if (l7.length : Int) > 10000 then (laws_FnStepsAroundOfAll.j0 k l0 l1 a2 l3 a4 l5 a6 l7 l8 true) else (laws_FnStepsAroundOfAll.j0 k l0 l1 a2 l3 a4 l5 a6 l7 l8 (decide ((l8.length : Int) > 10000)))))))) = some r := h
 clear h
 have HC10 := Aside0.mk H
 clear H
 as_aux_lemma =>
 go_enter Try.func6, Try.ntmps6
 as_aux_lemma =>
 go_upto_region 1 with (fail)
 go_cut [111] from 9999 to 9999 (fun v111 wc => ∃ (kq : Nat) (x111_9 : Bool), v111 = .bool x111_9 ∧ Aside0 (laws_FnStepsAroundOfAll.j0 kq l0 l1 a2 l3 a4 l5 a6 l7 l8 x111_9 = some r) ∧ Aside0 (kq ≤ k) ∧ Aside0 (Below w.heap.size w wc))
 case first =>
  as_aux_lemma =>
  have H := HC10.out
  clear HC10
  by_cases c11 : (l0.length : Int) > 10000
  ·as_aux_lemma =>
   rw [if_pos c11] at H
   have c11b0 : decide (10000 < (l0.length : Int)) = true := decide_eq_true c11
   have c11b1 : decide (10000 < l0.length) = true := decide_eq_true (by omega)
   clear c11
   (first | rw [c11b0] | (simp only [i64_w, i32_w]; rw [c11b0]) | skip)
   have H' := Aside0.mk H
   clear H
   as_aux_lemma =>
   go_wp2
   as_aux_lemma =>
   go_meet
   case rel => exact ⟨_, (true), (by first | rfl | (simp; done) | (simp [*]; done)), H', ⟨by first | omega | exact Nat.le_refl _⟩, ⟨by repeat (first | (with_reducible first | exact HB.out | apply below_alloc | apply pw_below_drewN | apply below_drew1) | exact HB.out)⟩⟩
  ·as_aux_lemma =>
   rw [if_neg c11] at H
   have c11b0 : decide (10000 < (l0.length : Int)) = false := decide_eq_false c11
   have c11b1 : decide (10000 < l0.length) = false := decide_eq_false (by omega)
   clear c11
   (first | rw [c11b0] | (simp only [i64_w, i32_w]; rw [c11b0]) | skip)
   by_cases c12 : (l1.length : Int) > 10000
   ·as_aux_lemma =>
    rw [if_pos c12] at H
    have c12b0 : decide (10000 < (l1.length : Int)) = true := decide_eq_true c12
    have c12b1 : decide (10000 < l1.length) = true := decide_eq_true (by omega)
    clear c12
    have H' := Aside0.mk H
    clear H
    as_aux_lemma =>
    go_wp2
    as_aux_lemma =>
    go_meet
    case rel => exact ⟨_, (true), (by first | rfl | (simp; done) | (simp [*]; done)), H', ⟨by first | omega | exact Nat.le_refl _⟩, ⟨by repeat (first | (with_reducible first | exact HB.out | apply below_alloc | apply pw_below_drewN | apply below_drew1) | exact HB.out)⟩⟩
   ·as_aux_lemma =>
    rw [if_neg c12] at H
    have c12b0 : decide (10000 < (l1.length : Int)) = false := decide_eq_false c12
    have c12b1 : decide (10000 < l1.length) = false := decide_eq_false (by omega)
    clear c12
    by_cases c13 : (l3.length : Int) > 10000
    ·as_aux_lemma =>
     rw [if_pos c13] at H
     have c13b0 : decide (10000 < (l3.length : Int)) = true := decide_eq_true c13
     have c13b1 : decide (10000 < l3.length) = true := decide_eq_true (by omega)
     clear c13
     have H' := Aside0.mk H
     clear H
     as_aux_lemma =>
     go_wp2
     as_aux_lemma =>
     go_meet
     case rel => exact ⟨_, (true), (by first | rfl | (simp; done) | (simp [*]; done)), H', ⟨by first | omega | exact Nat.le_refl _⟩, ⟨by repeat (first | (with_reducible first | exact HB.out | apply below_alloc | apply pw_below_drewN | apply below_drew1) | exact HB.out)⟩⟩
    ·as_aux_lemma =>
     rw [if_neg c13] at H
     have c13b0 : decide (10000 < (l3.length : Int)) = false := decide_eq_false c13
     have c13b1 : decide (10000 < l3.length) = false := decide_eq_false (by omega)
     clear c13
     by_cases c14 : (l5.length : Int) > 10000
     ·as_aux_lemma =>
      rw [if_pos c14] at H
      have c14b0 : decide (10000 < (l5.length : Int)) = true := decide_eq_true c14
      have c14b1 : decide (10000 < l5.length) = true := decide_eq_true (by omega)
      clear c14
      have H' := Aside0.mk H
      clear H
      as_aux_lemma =>
      go_wp2
      as_aux_lemma =>
      go_meet
      case rel => exact ⟨_, (true), (by first | rfl | (simp; done) | (simp [*]; done)), H', ⟨by first | omega | exact Nat.le_refl _⟩, ⟨by repeat (first | (with_reducible first | exact HB.out | apply below_alloc | apply pw_below_drewN | apply below_drew1) | exact HB.out)⟩⟩
     ·as_aux_lemma =>
      rw [if_neg c14] at H
      have c14b0 : decide (10000 < (l5.length : Int)) = false := decide_eq_false c14
      have c14b1 : decide (10000 < l5.length) = false := decide_eq_false (by omega)
      clear c14
      by_cases c15 : (l7.length : Int) > 10000
      ·as_aux_lemma =>
       rw [if_pos c15] at H
       have c15b0 : decide (10000 < (l7.length : Int)) = true := decide_eq_true c15
       have c15b1 : decide (10000 < l7.length) = true := decide_eq_true (by omega)
       clear c15
       have H' := Aside0.mk H
       clear H
       as_aux_lemma =>
       go_wp2
       as_aux_lemma =>
       go_meet
       case rel => exact ⟨_, (true), (by first | rfl | (simp; done) | (simp [*]; done)), H', ⟨by first | omega | exact Nat.le_refl _⟩, ⟨by repeat (first | (with_reducible first | exact HB.out | apply below_alloc | apply pw_below_drewN | apply below_drew1) | exact HB.out)⟩⟩
      ·as_aux_lemma =>
       rw [if_neg c15] at H
       have c15b0 : decide (10000 < (l7.length : Int)) = false := decide_eq_false c15
       have c15b1 : decide (10000 < l7.length) = false := decide_eq_false (by omega)
       clear c15
       have H' := Aside0.mk H
       clear H
       as_aux_lemma =>
       go_wp2
       as_aux_lemma =>
       go_meet
       case rel => exact ⟨_, (decide ((l8.length : Int) > 10000)), (by first | rfl | (simp; done) | (simp [*]; done)), H', ⟨by first | omega | exact Nat.le_refl _⟩, ⟨by repeat (first | (with_reducible first | exact HB.out | apply below_alloc | apply pw_below_drewN | apply below_drew1) | exact HB.out)⟩⟩
 case rest =>
  as_aux_lemma =>
  clear HC10
  try clear c1
  try clear p2
  try clear c3
  try clear c5
  try clear c6
  try clear c7
  try clear c8
  try clear c11
  try clear c11b0
  try clear c11b1
  try clear c12
  try clear c12b0
  try clear c12b1
  try clear c13
  try clear c13b0
  try clear c13b1
  try clear c14
  try clear c14b0
  try clear c14b1
  try clear c15
  try clear c15b0
  try clear c15b1
  obtain ⟨kq, x111_9, rfl, HA, HJ9, HB⟩ := hcut
  cases kq with
  | zero => exact absurd HA.out (by simp [laws_FnStepsAroundOfAll.j0])
  | succ kj9 =>
   have H := HA.out
   clear HA
   simp only [laws_FnStepsAroundOfAll.j0] at H
   by_cases c16 : x111_9 = true
   ·subst c16
    have H1 : (some true) = some r := by rw [if_pos rfl] at H; exact H
    clear H
    have H := H1
    clear H1
    obtain rfl := Option.some.inj H
    as_aux_lemma =>
    go_wp2
    go_ret
    exact ⟨by first | rfl | (simp [errW_none, errW_some] <;> rfl) | (simp [*, errW_none, errW_some] <;> rfl), by repeat (first | (with_reducible first | exact HB.out | apply below_alloc | apply pw_below_drewN | apply below_drew1) | exact HB.out)⟩
   ·replace c16 := Bool.eq_false_iff.mpr c16
    subst c16
    have H1 : ((impl_LongestStep.f kj9 l0).bind fun bt411 => ((spec_LongestStep.f kj9 l0).bind fun bt414 => ((impl_StepSizes.f kj9 l0).bind fun bt417 => ((spec_StepSizes.f kj9 l0).bind fun bt421 => ((impl_LeastPeriod.f kj9 l0).bind fun bt425 => ((spec_LeastPeriod.f kj9 l0).bind fun bt427 => ((impl_IsSymmetric.f kj9 l0).bind fun bt429 => ((spec_IsSymmetric.f kj9 l0).bind fun bt431 => ((impl_StepsOf.f kj9 l0).bind fun bt433 => (if (bt411.2.2 != bt414.2.2) = true then (none) else (if bt411.1 = bt414.1 then (if bt411.2.1 = bt414.2.1 then (if (bt417.2 != bt421.2) = true then (none) else ((laws_gSame.f kj9 bt417.1 bt421.1).bind fun t437 => (if t437 = true then (if (bt425.2 != bt427.2) = true then (none) else (if bt425.1 = bt427.1 then (if (bt429.2 != bt431.2) = true then (none) else (if (bt429.1 != bt431.1) = true then (none) else (if (bt417.2 != bt411.2.2) = true then (none) else (if (bt425.2 != bt411.2.2) = true then (none) else (if (bt429.2 != bt411.2.2) = true then (none) else (if (bt433.2 != bt411.2.2) = true then (none) else (if bt411.2.2 = true then ((impl_PeriodOfRules.f kj9 l0).bind fun bt438 => ((impl_SpokesOf.f kj9 l0).bind fun bt440 => (laws_FnStepsAroundOfAll.l0 kj9 l0 l1 a2 l3 a4 l5 a6 l7 l8 bt411.1 bt411.2.1 bt417.1 bt425.1 bt429.1 bt433.1 bt438.1 bt438.2 bt440.1 bt440.2 0 0 bt417.1 (bt417.1.length : Int) 0))) else (laws_FnStepsAroundOfAll.j4 kj9 l1 a2 l3 a4 l5 a6 l7 l8)))))))) else (none))) else (none)))) else (none)) else (none)))))))))))) = some r := by rw [if_neg (show ¬ (false = true) by decide)] at H; exact H
    clear H
    have H := H1
    clear H1
    replace H := Option.bind_eq_some_iff.mp H
    obtain ⟨⟨t411, t412, t413⟩, A170, H⟩ := H
    replace H : ((spec_LongestStep.f kj9 l0).bind fun bt414 => ((impl_StepSizes.f kj9 l0).bind fun bt417 => ((spec_StepSizes.f kj9 l0).bind fun bt421 => ((impl_LeastPeriod.f kj9 l0).bind fun bt425 => ((spec_LeastPeriod.f kj9 l0).bind fun bt427 => ((impl_IsSymmetric.f kj9 l0).bind fun bt429 => ((spec_IsSymmetric.f kj9 l0).bind fun bt431 => ((impl_StepsOf.f kj9 l0).bind fun bt433 => (if (t413 != bt414.2.2) = true then (none) else (if t411 = bt414.1 then (if t412 = bt414.2.1 then (if (bt417.2 != bt421.2) = true then (none) else ((laws_gSame.f kj9 bt417.1 bt421.1).bind fun t437 => (if t437 = true then (if (bt425.2 != bt427.2) = true then (none) else (if bt425.1 = bt427.1 then (if (bt429.2 != bt431.2) = true then (none) else (if (bt429.1 != bt431.1) = true then (none) else (if (bt417.2 != t413) = true then (none) else (if (bt425.2 != t413) = true then (none) else (if (bt429.2 != t413) = true then (none) else (if (bt433.2 != t413) = true then (none) else (if t413 = true then ((impl_PeriodOfRules.f kj9 l0).bind fun bt438 => ((impl_SpokesOf.f kj9 l0).bind fun bt440 => (laws_FnStepsAroundOfAll.l0 kj9 l0 l1 a2 l3 a4 l5 a6 l7 l8 t411 t412 bt417.1 bt425.1 bt429.1 bt433.1 bt438.1 bt438.2 bt440.1 bt440.2 0 0 bt417.1 (bt417.1.length : Int) 0))) else (laws_FnStepsAroundOfAll.j4 kj9 l1 a2 l3 a4 l5 a6 l7 l8)))))))) else (none))) else (none)))) else (none)) else (none))))))))))) = some r := H
    have A17 := Aside0.mk A170
    clear A170
    replace H := Option.bind_eq_some_iff.mp H
    obtain ⟨⟨t414, t415, t416⟩, A180, H⟩ := H
    replace H : ((impl_StepSizes.f kj9 l0).bind fun bt417 => ((spec_StepSizes.f kj9 l0).bind fun bt421 => ((impl_LeastPeriod.f kj9 l0).bind fun bt425 => ((spec_LeastPeriod.f kj9 l0).bind fun bt427 => ((impl_IsSymmetric.f kj9 l0).bind fun bt429 => ((spec_IsSymmetric.f kj9 l0).bind fun bt431 => ((impl_StepsOf.f kj9 l0).bind fun bt433 => (if (t413 != t416) = true then (none) else (if t411 = t414 then (if t412 = t415 then (if (bt417.2 != bt421.2) = true then (none) else ((laws_gSame.f kj9 bt417.1 bt421.1).bind fun t437 => (if t437 = true then (if (bt425.2 != bt427.2) = true then (none) else (if bt425.1 = bt427.1 then (if (bt429.2 != bt431.2) = true then (none) else (if (bt429.1 != bt431.1) = true then (none) else (if (bt417.2 != t413) = true then (none) else (if (bt425.2 != t413) = true then (none) else (if (bt429.2 != t413) = true then (none) else (if (bt433.2 != t413) = true then (none) else (if t413 = true then ((impl_PeriodOfRules.f kj9 l0).bind fun bt438 => ((impl_SpokesOf.f kj9 l0).bind fun bt440 => (laws_FnStepsAroundOfAll.l0 kj9 l0 l1 a2 l3 a4 l5 a6 l7 l8 t411 t412 bt417.1 bt425.1 bt429.1 bt433.1 bt438.1 bt438.2 bt440.1 bt440.2 0 0 bt417.1 (bt417.1.length : Int) 0))) else (laws_FnStepsAroundOfAll.j4 kj9 l1 a2 l3 a4 l5 a6 l7 l8)))))))) else (none))) else (none)))) else (none)) else (none)))))))))) = some r := H
    have A18 := Aside0.mk A180
    clear A180
    replace H := Option.bind_eq_some_iff.mp H
    obtain ⟨⟨t417, t418⟩, A190, H⟩ := H
    replace H : ((spec_StepSizes.f kj9 l0).bind fun bt421 => ((impl_LeastPeriod.f kj9 l0).bind fun bt425 => ((spec_LeastPeriod.f kj9 l0).bind fun bt427 => ((impl_IsSymmetric.f kj9 l0).bind fun bt429 => ((spec_IsSymmetric.f kj9 l0).bind fun bt431 => ((impl_StepsOf.f kj9 l0).bind fun bt433 => (if (t413 != t416) = true then (none) else (if t411 = t414 then (if t412 = t415 then (if (t418 != bt421.2) = true then (none) else ((laws_gSame.f kj9 t417 bt421.1).bind fun t437 => (if t437 = true then (if (bt425.2 != bt427.2) = true then (none) else (if bt425.1 = bt427.1 then (if (bt429.2 != bt431.2) = true then (none) else (if (bt429.1 != bt431.1) = true then (none) else (if (t418 != t413) = true then (none) else (if (bt425.2 != t413) = true then (none) else (if (bt429.2 != t413) = true then (none) else (if (bt433.2 != t413) = true then (none) else (if t413 = true then ((impl_PeriodOfRules.f kj9 l0).bind fun bt438 => ((impl_SpokesOf.f kj9 l0).bind fun bt440 => (laws_FnStepsAroundOfAll.l0 kj9 l0 l1 a2 l3 a4 l5 a6 l7 l8 t411 t412 t417 bt425.1 bt429.1 bt433.1 bt438.1 bt438.2 bt440.1 bt440.2 0 0 t417 (t417.length : Int) 0))) else (laws_FnStepsAroundOfAll.j4 kj9 l1 a2 l3 a4 l5 a6 l7 l8)))))))) else (none))) else (none)))) else (none)) else (none))))))))) = some r := H
    have A19 := Aside0.mk A190
    clear A190
    replace H := Option.bind_eq_some_iff.mp H
    obtain ⟨⟨t421, t422⟩, A200, H⟩ := H
    replace H : ((impl_LeastPeriod.f kj9 l0).bind fun bt425 => ((spec_LeastPeriod.f kj9 l0).bind fun bt427 => ((impl_IsSymmetric.f kj9 l0).bind fun bt429 => ((spec_IsSymmetric.f kj9 l0).bind fun bt431 => ((impl_StepsOf.f kj9 l0).bind fun bt433 => (if (t413 != t416) = true then (none) else (if t411 = t414 then (if t412 = t415 then (if (t418 != t422) = true then (none) else ((laws_gSame.f kj9 t417 t421).bind fun t437 => (if t437 = true then (if (bt425.2 != bt427.2) = true then (none) else (if bt425.1 = bt427.1 then (if (bt429.2 != bt431.2) = true then (none) else (if (bt429.1 != bt431.1) = true then (none) else (if (t418 != t413) = true then (none) else (if (bt425.2 != t413) = true then (none) else (if (bt429.2 != t413) = true then (none) else (if (bt433.2 != t413) = true then (none) else (if t413 = true then ((impl_PeriodOfRules.f kj9 l0).bind fun bt438 => ((impl_SpokesOf.f kj9 l0).bind fun bt440 => (laws_FnStepsAroundOfAll.l0 kj9 l0 l1 a2 l3 a4 l5 a6 l7 l8 t411 t412 t417 bt425.1 bt429.1 bt433.1 bt438.1 bt438.2 bt440.1 bt440.2 0 0 t417 (t417.length : Int) 0))) else (laws_FnStepsAroundOfAll.j4 kj9 l1 a2 l3 a4 l5 a6 l7 l8)))))))) else (none))) else (none)))) else (none)) else (none)))))))) = some r := H
    have A20 := Aside0.mk A200
    clear A200
    replace H := Option.bind_eq_some_iff.mp H
    obtain ⟨⟨t425, t426⟩, A210, H⟩ := H
    replace H : ((spec_LeastPeriod.f kj9 l0).bind fun bt427 => ((impl_IsSymmetric.f kj9 l0).bind fun bt429 => ((spec_IsSymmetric.f kj9 l0).bind fun bt431 => ((impl_StepsOf.f kj9 l0).bind fun bt433 => (if (t413 != t416) = true then (none) else (if t411 = t414 then (if t412 = t415 then (if (t418 != t422) = true then (none) else ((laws_gSame.f kj9 t417 t421).bind fun t437 => (if t437 = true then (if (t426 != bt427.2) = true then (none) else (if t425 = bt427.1 then (if (bt429.2 != bt431.2) = true then (none) else (if (bt429.1 != bt431.1) = true then (none) else (if (t418 != t413) = true then (none) else (if (t426 != t413) = true then (none) else (if (bt429.2 != t413) = true then (none) else (if (bt433.2 != t413) = true then (none) else (if t413 = true then ((impl_PeriodOfRules.f kj9 l0).bind fun bt438 => ((impl_SpokesOf.f kj9 l0).bind fun bt440 => (laws_FnStepsAroundOfAll.l0 kj9 l0 l1 a2 l3 a4 l5 a6 l7 l8 t411 t412 t417 t425 bt429.1 bt433.1 bt438.1 bt438.2 bt440.1 bt440.2 0 0 t417 (t417.length : Int) 0))) else (laws_FnStepsAroundOfAll.j4 kj9 l1 a2 l3 a4 l5 a6 l7 l8)))))))) else (none))) else (none)))) else (none)) else (none))))))) = some r := H
    have A21 := Aside0.mk A210
    clear A210
    replace H := Option.bind_eq_some_iff.mp H
    obtain ⟨⟨t427, t428⟩, A220, H⟩ := H
    replace H : ((impl_IsSymmetric.f kj9 l0).bind fun bt429 => ((spec_IsSymmetric.f kj9 l0).bind fun bt431 => ((impl_StepsOf.f kj9 l0).bind fun bt433 => (if (t413 != t416) = true then (none) else (if t411 = t414 then (if t412 = t415 then (if (t418 != t422) = true then (none) else ((laws_gSame.f kj9 t417 t421).bind fun t437 => (if t437 = true then (if (t426 != t428) = true then (none) else (if t425 = t427 then (if (bt429.2 != bt431.2) = true then (none) else (if (bt429.1 != bt431.1) = true then (none) else (if (t418 != t413) = true then (none) else (if (t426 != t413) = true then (none) else (if (bt429.2 != t413) = true then (none) else (if (bt433.2 != t413) = true then (none) else (if t413 = true then ((impl_PeriodOfRules.f kj9 l0).bind fun bt438 => ((impl_SpokesOf.f kj9 l0).bind fun bt440 => (laws_FnStepsAroundOfAll.l0 kj9 l0 l1 a2 l3 a4 l5 a6 l7 l8 t411 t412 t417 t425 bt429.1 bt433.1 bt438.1 bt438.2 bt440.1 bt440.2 0 0 t417 (t417.length : Int) 0))) else (laws_FnStepsAroundOfAll.j4 kj9 l1 a2 l3 a4 l5 a6 l7 l8)))))))) else (none))) else (none)))) else (none)) else (none)))))) = some r := H
    have A22 := Aside0.mk A220
    clear A220
    replace H := Option.bind_eq_some_iff.mp H
    obtain ⟨⟨t429, t430⟩, A230, H⟩ := H
    replace H : ((spec_IsSymmetric.f kj9 l0).bind fun bt431 => ((impl_StepsOf.f kj9 l0).bind fun bt433 => (if (t413 != t416) = true then (none) else (if t411 = t414 then (if t412 = t415 then (if (t418 != t422) = true then (none) else ((laws_gSame.f kj9 t417 t421).bind fun t437 => (if t437 = true then (if (t426 != t428) = true then (none) else (if t425 = t427 then (if (t430 != bt431.2) = true then (none) else (if (t429 != bt431.1) = true then (none) else (if (t418 != t413) = true then (none) else (if (t426 != t413) = true then (none) else (if (t430 != t413) = true then (none) else (if (bt433.2 != t413) = true then (none) else (if t413 = true then ((impl_PeriodOfRules.f kj9 l0).bind fun bt438 => ((impl_SpokesOf.f kj9 l0).bind fun bt440 => (laws_FnStepsAroundOfAll.l0 kj9 l0 l1 a2 l3 a4 l5 a6 l7 l8 t411 t412 t417 t425 t429 bt433.1 bt438.1 bt438.2 bt440.1 bt440.2 0 0 t417 (t417.length : Int) 0))) else (laws_FnStepsAroundOfAll.j4 kj9 l1 a2 l3 a4 l5 a6 l7 l8)))))))) else (none))) else (none)))) else (none)) else (none))))) = some r := H
    have A23 := Aside0.mk A230
    clear A230
    replace H := Option.bind_eq_some_iff.mp H
    obtain ⟨⟨t431, t432⟩, A240, H⟩ := H
    replace H : ((impl_StepsOf.f kj9 l0).bind fun bt433 => (if (t413 != t416) = true then (none) else (if t411 = t414 then (if t412 = t415 then (if (t418 != t422) = true then (none) else ((laws_gSame.f kj9 t417 t421).bind fun t437 => (if t437 = true then (if (t426 != t428) = true then (none) else (if t425 = t427 then (if (t430 != t432) = true then (none) else (if (t429 != t431) = true then (none) else (if (t418 != t413) = true then (none) else (if (t426 != t413) = true then (none) else (if (t430 != t413) = true then (none) else (if (bt433.2 != t413) = true then (none) else (if t413 = true then ((impl_PeriodOfRules.f kj9 l0).bind fun bt438 => ((impl_SpokesOf.f kj9 l0).bind fun bt440 => (laws_FnStepsAroundOfAll.l0 kj9 l0 l1 a2 l3 a4 l5 a6 l7 l8 t411 t412 t417 t425 t429 bt433.1 bt438.1 bt438.2 bt440.1 bt440.2 0 0 t417 (t417.length : Int) 0))) else (laws_FnStepsAroundOfAll.j4 kj9 l1 a2 l3 a4 l5 a6 l7 l8)))))))) else (none))) else (none)))) else (none)) else (none)))) = some r := H
    have A24 := Aside0.mk A240
    clear A240
    replace H := Option.bind_eq_some_iff.mp H
    obtain ⟨⟨t433, t434⟩, A250, H⟩ := H
    replace H : (if (t413 != t416) = true then (none) else (if t411 = t414 then (if t412 = t415 then (if (t418 != t422) = true then (none) else ((laws_gSame.f kj9 t417 t421).bind fun t437 => (if t437 = true then (if (t426 != t428) = true then (none) else (if t425 = t427 then (if (t430 != t432) = true then (none) else (if (t429 != t431) = true then (none) else (if (t418 != t413) = true then (none) else (if (t426 != t413) = true then (none) else (if (t430 != t413) = true then (none) else (if (t434 != t413) = true then (none) else (if t413 = true then ((impl_PeriodOfRules.f kj9 l0).bind fun bt438 => ((impl_SpokesOf.f kj9 l0).bind fun bt440 => (laws_FnStepsAroundOfAll.l0 kj9 l0 l1 a2 l3 a4 l5 a6 l7 l8 t411 t412 t417 t425 t429 t433 bt438.1 bt438.2 bt440.1 bt440.2 0 0 t417 (t417.length : Int) 0))) else (laws_FnStepsAroundOfAll.j4 kj9 l1 a2 l3 a4 l5 a6 l7 l8)))))))) else (none))) else (none)))) else (none)) else (none))) = some r := H
    have A25 := Aside0.mk A250
    clear A250
    have c26 : ¬ ((t413 != t416) = true) := fun c26 => by
     rw [if_pos c26] at H
     exact absurd H (by simp)
    rw [if_neg c26] at H
    have c26b0 : (t413 != t416) = false := by simpa using c26
    (try (have c26b1 : decide (t413 = t416) = true := by simpa using c26))
    (try (have c26b2 : (t413 == t416) = true := by simpa using c26))
    clear c26
    by_cases c27 : t411 = t414
    ·as_aux_lemma =>
     rw [if_pos c27] at H
     have c27b0 : (t411 == t414) = true := beq_iff_eq.mpr c27
     have c27b1 : (t411 != t414) = false := bne_eq_false_iff_eq.mpr c27
     clear c27
     have c28 : t412 = t415 := Classical.byContradiction fun c28 => by
      rw [if_neg c28] at H
      exact absurd H (by simp)
     rw [if_pos c28] at H
     have c28b0 : (t412 == t415) = true := beq_iff_eq.mpr c28
     have c28b1 : (t412 != t415) = false := bne_eq_false_iff_eq.mpr c28
     clear c28
     have c29 : ¬ ((t418 != t422) = true) := fun c29 => by
      rw [if_pos c29] at H
      exact absurd H (by simp)
     rw [if_neg c29] at H
     have c29b0 : (t418 != t422) = false := by simpa using c29
     (try (have c29b1 : decide (t418 = t422) = true := by simpa using c29))
     (try (have c29b2 : (t418 == t422) = true := by simpa using c29))
     clear c29
     replace H := Option.bind_eq_some_iff.mp H
     obtain ⟨t437, A300, H⟩ := H
     replace H : (if t437 = true then (if (t426 != t428) = true then (none) else (if t425 = t427 then (if (t430 != t432) = true then (none) else (if (t429 != t431) = true then (none) else (if (t418 != t413) = true then (none) else (if (t426 != t413) = true then (none) else (if (t430 != t413) = true then (none) else (if (t434 != t413) = true then (none) else (if t413 = true then ((impl_PeriodOfRules.f kj9 l0).bind fun bt438 => ((impl_SpokesOf.f kj9 l0).bind fun bt440 => (laws_FnStepsAroundOfAll.l0 kj9 l0 l1 a2 l3 a4 l5 a6 l7 l8 t411 t412 t417 t425 t429 t433 bt438.1 bt438.2 bt440.1 bt440.2 0 0 t417 (t417.length : Int) 0))) else (laws_FnStepsAroundOfAll.j4 kj9 l1 a2 l3 a4 l5 a6 l7 l8)))))))) else (none))) else (none)) = some r := H
     have A30 := Aside0.mk A300
     clear A300
     have c31 : t437 = true := Classical.byContradiction fun c31 => by
      replace c31 := Bool.eq_false_iff.mpr c31
      subst c31
      have H1 : (none) = some r := by rw [if_neg (show ¬ (false = true) by decide)] at H; exact H
      clear H
      have H := H1
      clear H1
      exact absurd H (by simp)
     subst c31
     have H1 : (if (t426 != t428) = true then (none) else (if t425 = t427 then (if (t430 != t432) = true then (none) else (if (t429 != t431) = true then (none) else (if (t418 != t413) = true then (none) else (if (t426 != t413) = true then (none) else (if (t430 != t413) = true then (none) else (if (t434 != t413) = true then (none) else (if t413 = true then ((impl_PeriodOfRules.f kj9 l0).bind fun bt438 => ((impl_SpokesOf.f kj9 l0).bind fun bt440 => (laws_FnStepsAroundOfAll.l0 kj9 l0 l1 a2 l3 a4 l5 a6 l7 l8 t411 t412 t417 t425 t429 t433 bt438.1 bt438.2 bt440.1 bt440.2 0 0 t417 (t417.length : Int) 0))) else (laws_FnStepsAroundOfAll.j4 kj9 l1 a2 l3 a4 l5 a6 l7 l8)))))))) else (none))) = some r := by rw [if_pos rfl] at H; exact H
     clear H
     have H := H1
     clear H1
     have c32 : ¬ ((t426 != t428) = true) := fun c32 => by
      rw [if_pos c32] at H
      exact absurd H (by simp)
     rw [if_neg c32] at H
     have c32b0 : (t426 != t428) = false := by simpa using c32
     (try (have c32b1 : decide (t426 = t428) = true := by simpa using c32))
     (try (have c32b2 : (t426 == t428) = true := by simpa using c32))
     clear c32
     have c33 : t425 = t427 := Classical.byContradiction fun c33 => by
      rw [if_neg c33] at H
      exact absurd H (by simp)
     rw [if_pos c33] at H
     have c33b0 : (t425 == t427) = true := beq_iff_eq.mpr c33
     have c33b1 : (t425 != t427) = false := bne_eq_false_iff_eq.mpr c33
     clear c33
     have c34 : ¬ ((t430 != t432) = true) := fun c34 => by
      rw [if_pos c34] at H
      exact absurd H (by simp)
     rw [if_neg c34] at H
     have c34b0 : (t430 != t432) = false := by simpa using c34
     (try (have c34b1 : decide (t430 = t432) = true := by simpa using c34))
     (try (have c34b2 : (t430 == t432) = true := by simpa using c34))
     clear c34
     have c35 : ¬ ((t429 != t431) = true) := fun c35 => by
      rw [if_pos c35] at H
      exact absurd H (by simp)
     rw [if_neg c35] at H
     have c35b0 : (t429 != t431) = false := by simpa using c35
     (try (have c35b1 : decide (t429 = t431) = true := by simpa using c35))
     (try (have c35b2 : (t429 == t431) = true := by simpa using c35))
     clear c35
     have c36 : ¬ ((t418 != t413) = true) := fun c36 => by
      rw [if_pos c36] at H
      exact absurd H (by simp)
     rw [if_neg c36] at H
     have c36b0 : (t418 != t413) = false := by simpa using c36
     (try (have c36b1 : decide (t418 = t413) = true := by simpa using c36))
     (try (have c36b2 : (t418 == t413) = true := by simpa using c36))
     clear c36
     have c37 : ¬ ((t426 != t413) = true) := fun c37 => by
      rw [if_pos c37] at H
      exact absurd H (by simp)
     rw [if_neg c37] at H
     have c37b0 : (t426 != t413) = false := by simpa using c37
     (try (have c37b1 : decide (t426 = t413) = true := by simpa using c37))
     (try (have c37b2 : (t426 == t413) = true := by simpa using c37))
     clear c37
     have c38 : ¬ ((t430 != t413) = true) := fun c38 => by
      rw [if_pos c38] at H
      exact absurd H (by simp)
     rw [if_neg c38] at H
     have c38b0 : (t430 != t413) = false := by simpa using c38
     (try (have c38b1 : decide (t430 = t413) = true := by simpa using c38))
     (try (have c38b2 : (t430 == t413) = true := by simpa using c38))
     clear c38
     have c39 : ¬ ((t434 != t413) = true) := fun c39 => by
      rw [if_pos c39] at H
      exact absurd H (by simp)
     rw [if_neg c39] at H
     have c39b0 : (t434 != t413) = false := by simpa using c39
     (try (have c39b1 : decide (t434 = t413) = true := by simpa using c39))
     (try (have c39b2 : (t434 == t413) = true := by simpa using c39))
     clear c39
     have HC40 := Aside0.mk H
     clear H
     as_aux_lemma =>
     go_upto_if 223 with (first | ((with_reducible refine gate_callee (f := 28) rfl ?_); refine goesL_ (some 114) rfl rfl Try.func28 (by kernel_rfl) rfl #[.slice A0 l0.length c0] rfl (by (try simp only [List.map_toArray, List.map_cons, List.map_nil]); first | done | rfl | (simp only [List.length_drop, List.length_take]; rfl)) ?_; (with_reducible refine (impl_LongestStep.calls kj9 _ _ l0 t411 t412 t413 _ ?side1 ?side2 A17.out).mono ?_); (case side1 => repeat (first | exact (Kd.C_below HR0.out HB.out) | (with_reducible refine Kd.C_alloc ?_ _) | (with_reducible refine Kd.C_drewN ?_ _) | (with_reducible refine Kd.C_drew ?_))); (case side2 => exact HC0.out); rintro e w41 ⟨rfl, hb⟩; refine ⟨_, rfl, ?_⟩; have n0_ := Aside0.mk (below_step (by repeat (first | (with_reducible first | exact HB.out | apply below_alloc | apply pw_below_drewN | apply below_drew1) | exact HB.out)) hb); clear HB; have HB := n0_; clear n0_; (try clear hb); (try clear hb2); (try clear hk); (try clear hi)) | ((with_reducible refine gate_callee (f := 29) rfl ?_); refine goesL_ (some 120) rfl rfl Try.func29 (by kernel_rfl) rfl #[.slice A0 l0.length c0] rfl (by (try simp only [List.map_toArray, List.map_cons, List.map_nil]); first | done | rfl | (simp only [List.length_drop, List.length_take]; rfl)) ?_; (with_reducible refine (spec_LongestStep.calls kj9 _ _ l0 t414 t415 t416 _ ?side1 ?side2 A18.out).mono ?_); (case side1 => repeat (first | exact (Kd.C_below HR0.out HB.out) | (with_reducible refine Kd.C_alloc ?_ _) | (with_reducible refine Kd.C_drewN ?_ _) | (with_reducible refine Kd.C_drew ?_))); (case side2 => exact HC0.out); rintro e w42 ⟨rfl, hb⟩; refine ⟨_, rfl, ?_⟩; have n0_ := Aside0.mk (below_step (by repeat (first | (with_reducible first | exact HB.out | apply below_alloc | apply pw_below_drewN | apply below_drew1) | exact HB.out)) hb); clear HB; have HB := n0_; clear n0_; (try clear hb); (try clear hb2); (try clear hk); (try clear hi)) | ((with_reducible refine gate_callee (f := 30) rfl ?_); refine goesL_ (some 126) rfl rfl Try.func30 (by kernel_rfl) rfl #[.slice A0 l0.length c0] rfl (by (try simp only [List.map_toArray, List.map_cons, List.map_nil]); first | done | rfl | (simp only [List.length_drop, List.length_take]; rfl)) ?_; (with_reducible refine (impl_StepSizes.calls kj9 _ _ l0 t417 t418 _ ?side1 ?side2 A19.out).mono ?_); (case side1 => repeat (first | exact (Kd.C_below HR0.out HB.out) | (with_reducible refine Kd.C_alloc ?_ _) | (with_reducible refine Kd.C_drewN ?_ _) | (with_reducible refine Kd.C_drew ?_))); (case side2 => exact HC0.out); rintro e w43 ⟨v419, rfl, ho0, hb⟩; refine ⟨_, rfl, ?_⟩; have n0_ := Aside0.mk (Kd.R_lower ho0 (below_size (by repeat (first | (with_reducible first | exact HB.out | apply below_alloc | apply pw_below_drewN | apply below_drew1) | exact HB.out)))); have n1_ := Aside0.mk (below_step (by repeat (first | (with_reducible first | exact HB.out | apply below_alloc | apply pw_below_drewN | apply below_drew1) | exact HB.out)) hb); clear HB; have HO420 := n0_; have HB := n1_; clear n0_ n1_; (try clear hb); (try clear hb2); (try clear hk); (try clear hi); (try clear ho0)) | ((with_reducible refine gate_callee (f := 31) rfl ?_); refine goesL_ (some 131) rfl rfl Try.func31 (by kernel_rfl) rfl #[.slice A0 l0.length c0] rfl (by (try simp only [List.map_toArray, List.map_cons, List.map_nil]); first | done | rfl | (simp only [List.length_drop, List.length_take]; rfl)) ?_; (with_reducible refine (spec_StepSizes.calls kj9 _ _ l0 t421 t422 _ ?side1 ?side2 A20.out).mono ?_); (case side1 => repeat (first | exact (Kd.C_below HR0.out HB.out) | (with_reducible refine Kd.C_alloc ?_ _) | (with_reducible refine Kd.C_drewN ?_ _) | (with_reducible refine Kd.C_drew ?_))); (case side2 => exact HC0.out); rintro e w44 ⟨v423, rfl, ho0, hb⟩; refine ⟨_, rfl, ?_⟩; have n0_ := Aside0.mk (Kd.R_elder' (by (with_reducible repeat (first | apply Kd.R_alloc | apply Kd.R_drewN | apply Kd.R_drew)); exact HO420.out) (Kd.R_base ho0) hb); have n1_ := Aside0.mk (Kd.R_lower (Kd.R_new' ho0 (Kd.R_lt (by (with_reducible repeat (first | apply Kd.R_alloc | apply Kd.R_drewN | apply Kd.R_drew)); exact HO420.out))) (below_size (by repeat (first | (with_reducible first | exact HB.out | apply below_alloc | apply pw_below_drewN | apply below_drew1) | exact HB.out)))); have n2_ := Aside0.mk (below_step (by repeat (first | (with_reducible first | exact HB.out | apply below_alloc | apply pw_below_drewN | apply below_drew1) | exact HB.out)) hb); clear HO420; clear HB; have HO420 := n0_; have HO424 := n1_; have HB := n2_; clear n0_ n1_ n2_; (try clear hb); (try clear hb2); (try clear hk); (try clear hi); (try clear ho0)) | ((with_reducible refine gate_callee (f := 32) rfl ?_); refine goesL_ (some 136) rfl rfl Try.func32 (by kernel_rfl) rfl #[.slice A0 l0.length c0] rfl (by (try simp only [List.map_toArray, List.map_cons, List.map_nil]); first | done | rfl | (simp only [List.length_drop, List.length_take]; rfl)) ?_; (with_reducible refine (impl_LeastPeriod.calls kj9 _ _ l0 t425 t426 _ ?side1 ?side2 A21.out).mono ?_); (case side1 => repeat (first | exact (Kd.C_below HR0.out HB.out) | (with_reducible refine Kd.C_alloc ?_ _) | (with_reducible refine Kd.C_drewN ?_ _) | (with_reducible refine Kd.C_drew ?_))); (case side2 => exact HC0.out); rintro e w45 ⟨rfl, hb⟩; refine ⟨_, rfl, ?_⟩; have n0_ := Aside0.mk (Kd.R_below (by (with_reducible repeat (first | apply Kd.R_alloc | apply Kd.R_drewN | apply Kd.R_drew)); exact HO420.out) hb); have n1_ := Aside0.mk (Kd.R_below (by (with_reducible repeat (first | apply Kd.R_alloc | apply Kd.R_drewN | apply Kd.R_drew)); exact HO424.out) hb); have n2_ := Aside0.mk (below_step (by repeat (first | (with_reducible first | exact HB.out | apply below_alloc | apply pw_below_drewN | apply below_drew1) | exact HB.out)) hb); clear HO420; clear HO424; clear HB; have HO420 := n0_; have HO424 := n1_; have HB := n2_; clear n0_ n1_ n2_; (try clear hb); (try clear hb2); (try clear hk); (try clear hi)) | ((with_reducible refine gate_callee (f := 33) rfl ?_); refine goesL_ (some 141) rfl rfl Try.func33 (by kernel_rfl) rfl #[.slice A0 l0.length c0] rfl (by (try simp only [List.map_toArray, List.map_cons, List.map_nil]); first | done | rfl | (simp only [List.length_drop, List.length_take]; rfl)) ?_; (with_reducible refine (spec_LeastPeriod.calls kj9 _ _ l0 t427 t428 _ ?side1 ?side2 A22.out).mono ?_); (case side1 => repeat (first | exact (Kd.C_below HR0.out HB.out) | (with_reducible refine Kd.C_alloc ?_ _) | (with_reducible refine Kd.C_drewN ?_ _) | (with_reducible refine Kd.C_drew ?_))); (case side2 => exact HC0.out); rintro e w46 ⟨rfl, hb⟩; refine ⟨_, rfl, ?_⟩; have n0_ := Aside0.mk (Kd.R_below (by (with_reducible repeat (first | apply Kd.R_alloc | apply Kd.R_drewN | apply Kd.R_drew)); exact HO420.out) hb); have n1_ := Aside0.mk (Kd.R_below (by (with_reducible repeat (first | apply Kd.R_alloc | apply Kd.R_drewN | apply Kd.R_drew)); exact HO424.out) hb); have n2_ := Aside0.mk (below_step (by repeat (first | (with_reducible first | exact HB.out | apply below_alloc | apply pw_below_drewN | apply below_drew1) | exact HB.out)) hb); clear HO420; clear HO424; clear HB; have HO420 := n0_; have HO424 := n1_; have HB := n2_; clear n0_ n1_ n2_; (try clear hb); (try clear hb2); (try clear hk); (try clear hi)) | ((with_reducible refine gate_callee (f := 34) rfl ?_); refine goesL_ (some 146) rfl rfl Try.func34 (by kernel_rfl) rfl #[.slice A0 l0.length c0] rfl (by (try simp only [List.map_toArray, List.map_cons, List.map_nil]); first | done | rfl | (simp only [List.length_drop, List.length_take]; rfl)) ?_; (with_reducible refine (impl_IsSymmetric.calls kj9 _ _ l0 t429 t430 _ ?side1 ?side2 A23.out).mono ?_); (case side1 => repeat (first | exact (Kd.C_below HR0.out HB.out) | (with_reducible refine Kd.C_alloc ?_ _) | (with_reducible refine Kd.C_drewN ?_ _) | (with_reducible refine Kd.C_drew ?_))); (case side2 => exact HC0.out); rintro e w47 ⟨rfl, hb⟩; refine ⟨_, rfl, ?_⟩; have n0_ := Aside0.mk (Kd.R_below (by (with_reducible repeat (first | apply Kd.R_alloc | apply Kd.R_drewN | apply Kd.R_drew)); exact HO420.out) hb); have n1_ := Aside0.mk (Kd.R_below (by (with_reducible repeat (first | apply Kd.R_alloc | apply Kd.R_drewN | apply Kd.R_drew)); exact HO424.out) hb); have n2_ := Aside0.mk (below_step (by repeat (first | (with_reducible first | exact HB.out | apply below_alloc | apply pw_below_drewN | apply below_drew1) | exact HB.out)) hb); clear HO420; clear HO424; clear HB; have HO420 := n0_; have HO424 := n1_; have HB := n2_; clear n0_ n1_ n2_; (try clear hb); (try clear hb2); (try clear hk); (try clear hi)) | ((with_reducible refine gate_callee (f := 35) rfl ?_); refine goesL_ (some 151) rfl rfl Try.func35 (by kernel_rfl) rfl #[.slice A0 l0.length c0] rfl (by (try simp only [List.map_toArray, List.map_cons, List.map_nil]); first | done | rfl | (simp only [List.length_drop, List.length_take]; rfl)) ?_; (with_reducible refine (spec_IsSymmetric.calls kj9 _ _ l0 t431 t432 _ ?side1 ?side2 A24.out).mono ?_); (case side1 => repeat (first | exact (Kd.C_below HR0.out HB.out) | (with_reducible refine Kd.C_alloc ?_ _) | (with_reducible refine Kd.C_drewN ?_ _) | (with_reducible refine Kd.C_drew ?_))); (case side2 => exact HC0.out); rintro e w48 ⟨rfl, hb⟩; refine ⟨_, rfl, ?_⟩; have n0_ := Aside0.mk (Kd.R_below (by (with_reducible repeat (first | apply Kd.R_alloc | apply Kd.R_drewN | apply Kd.R_drew)); exact HO420.out) hb); have n1_ := Aside0.mk (Kd.R_below (by (with_reducible repeat (first | apply Kd.R_alloc | apply Kd.R_drewN | apply Kd.R_drew)); exact HO424.out) hb); have n2_ := Aside0.mk (below_step (by repeat (first | (with_reducible first | exact HB.out | apply below_alloc | apply pw_below_drewN | apply below_drew1) | exact HB.out)) hb); clear HO420; clear HO424; clear HB; have HO420 := n0_; have HO424 := n1_; have HB := n2_; clear n0_ n1_ n2_; (try clear hb); (try clear hb2); (try clear hk); (try clear hi)) | ((with_reducible refine gate_callee (f := 17) rfl ?_); refine goesL_ (some 156) rfl rfl Try.func17 (by kernel_rfl) rfl #[.slice A0 l0.length c0] rfl (by (try simp only [List.map_toArray, List.map_cons, List.map_nil]); first | done | rfl | (simp only [List.length_drop, List.length_take]; rfl)) ?_; (with_reducible refine (impl_StepsOf.calls kj9 _ _ l0 t433 t434 _ ?side1 ?side2 A25.out).mono ?_); (case side1 => repeat (first | exact (Kd.C_below HR0.out HB.out) | (with_reducible refine Kd.C_alloc ?_ _) | (with_reducible refine Kd.C_drewN ?_ _) | (with_reducible refine Kd.C_drew ?_))); (case side2 => exact HC0.out); rintro e w49 ⟨v435, rfl, ho0, hb⟩; refine ⟨_, rfl, ?_⟩; have n0_ := Aside0.mk (Kd.R_elder' (by (with_reducible repeat (first | apply Kd.R_alloc | apply Kd.R_drewN | apply Kd.R_drew)); exact HO420.out) (Kd.R_base ho0) hb); have n1_ := Aside0.mk (Kd.R_elder' (by (with_reducible repeat (first | apply Kd.R_alloc | apply Kd.R_drewN | apply Kd.R_drew)); exact HO424.out) (Kd.R_base ho0) hb); have n2_ := Aside0.mk (Kd.R_lower (Kd.R_new' (Kd.R_new' ho0 (Kd.R_lt (by (with_reducible repeat (first | apply Kd.R_alloc | apply Kd.R_drewN | apply Kd.R_drew)); exact HO420.out))) (Kd.R_lt (by (with_reducible repeat (first | apply Kd.R_alloc | apply Kd.R_drewN | apply Kd.R_drew)); exact HO424.out))) (below_size (by repeat (first | (with_reducible first | exact HB.out | apply below_alloc | apply pw_below_drewN | apply below_drew1) | exact HB.out)))); have n3_ := Aside0.mk (below_step (by repeat (first | (with_reducible first | exact HB.out | apply below_alloc | apply pw_below_drewN | apply below_drew1) | exact HB.out)) hb); clear HO420; clear HO424; clear HB; have HO420 := n0_; have HO424 := n1_; have HO436 := n2_; have HB := n3_; clear n0_ n1_ n2_ n3_; (try clear hb); (try clear hb2); (try clear hk); (try clear hi); (try clear ho0); obtain ⟨Ao50, co50, eo50⟩ := Kd.R_slice HO420.out; subst eo50; obtain ⟨Ao51, co51, eo51⟩ := Kd.R_slice HO424.out; subst eo51))
     as_aux_lemma =>
     go_upto_if 223 with (first | (go_at_call 21; (with_reducible refine (laws_gSame.calls kj9 _ _ t417 _ _ t421 true _ ?side1 ?side2 ?side3 ?side4 A30.out).mono ?_); (case side1 => repeat (first | exact (Kd.R_reads' HO420.out).2.2 | (with_reducible refine Kd.C_alloc ?_ _) | (with_reducible refine Kd.C_drewN ?_ _) | (with_reducible refine Kd.C_drew ?_))); (case side2 => exact (Kd.R_reads' HO420.out).2.1); (case side3 => repeat (first | exact (Kd.R_reads' HO424.out).2.2 | (with_reducible refine Kd.C_alloc ?_ _) | (with_reducible refine Kd.C_drewN ?_ _) | (with_reducible refine Kd.C_drew ?_))); (case side4 => exact (Kd.R_reads' HO424.out).2.1); rintro e w' ⟨rfl, ⟨nd, rfl⟩⟩))
     (try simp only [Act.put, List.setIfInBounds_toArray, List.set_cons_zero, List.set_cons_succ])
     go_cut [] from 9999 to 9999 (fun wc => ∃ (kq : Nat), Aside0 (laws_FnStepsAroundOfAll.j4 kq l1 a2 l3 a4 l5 a6 l7 l8 = some r) ∧ Aside0 (kq ≤ kj9) ∧ Aside0 (Below w.heap.size w wc))
     case first =>
      as_aux_lemma =>
      have H := HC40.out
      clear HC40
      by_cases c52 : t413 = true
      ·subst c52
       have H1 : ((impl_PeriodOfRules.f kj9 l0).bind fun bt438 => ((impl_SpokesOf.f kj9 l0).bind fun bt440 => (laws_FnStepsAroundOfAll.l0 kj9 l0 l1 a2 l3 a4 l5 a6 l7 l8 t411 t412 t417 t425 t429 t433 bt438.1 bt438.2 bt440.1 bt440.2 0 0 t417 (t417.length : Int) 0))) = some r := by rw [if_pos rfl] at H; exact H
       clear H
       have H := H1
       clear H1
       replace H := Option.bind_eq_some_iff.mp H
       obtain ⟨⟨t438, t439⟩, A530, H⟩ := H
       replace H : ((impl_SpokesOf.f kj9 l0).bind fun bt440 => (laws_FnStepsAroundOfAll.l0 kj9 l0 l1 a2 l3 a4 l5 a6 l7 l8 t411 t412 t417 t425 t429 t433 t438 t439 bt440.1 bt440.2 0 0 t417 (t417.length : Int) 0)) = some r := H
       have A53 := Aside0.mk A530
       clear A530
       replace H := Option.bind_eq_some_iff.mp H
       obtain ⟨⟨t440, t441⟩, A540, H⟩ := H
       replace H : (laws_FnStepsAroundOfAll.l0 kj9 l0 l1 a2 l3 a4 l5 a6 l7 l8 t411 t412 t417 t425 t429 t433 t438 t439 t440 t441 0 0 t417 (t417.length : Int) 0) = some r := H
       have A54 := Aside0.mk A540
       clear A540
       have H' := Aside0.mk H
       clear H
       as_aux_lemma =>
       go_wp2_with (first | ((with_reducible refine gate_callee (f := 22) rfl ?_); refine goesL_ (some 226) rfl rfl Try.func22 (by kernel_rfl) rfl #[.slice A0 l0.length c0] rfl (by (try simp only [List.map_toArray, List.map_cons, List.map_nil]); first | done | rfl | (simp only [List.length_drop, List.length_take]; rfl)) ?_; (with_reducible refine (impl_PeriodOfRules.calls kj9 _ _ l0 t438 t439 _ ?side1 ?side2 A53.out).mono ?_); (case side1 => repeat (first | exact (Kd.C_below HR0.out HB.out) | (with_reducible refine Kd.C_alloc ?_ _) | (with_reducible refine Kd.C_drewN ?_ _) | (with_reducible refine Kd.C_drew ?_))); (case side2 => exact HC0.out); rintro e w55 ⟨rfl, hb⟩; refine ⟨_, rfl, ?_⟩; have n0_ := Aside0.mk (Kd.R_below (by (with_reducible repeat (first | apply Kd.R_alloc | apply Kd.R_drewN | apply Kd.R_drew)); exact HO420.out) hb); have n1_ := Aside0.mk (Kd.R_below (by (with_reducible repeat (first | apply Kd.R_alloc | apply Kd.R_drewN | apply Kd.R_drew)); exact HO424.out) hb); have n2_ := Aside0.mk (Kd.R_below (by (with_reducible repeat (first | apply Kd.R_alloc | apply Kd.R_drewN | apply Kd.R_drew)); exact HO436.out) hb); have n3_ := Aside0.mk (below_step (by repeat (first | (with_reducible first | exact HB.out | apply below_alloc | apply pw_below_drewN | apply below_drew1) | exact HB.out)) hb); clear HO420; clear HO424; clear HO436; clear HB; have HO420 := n0_; have HO424 := n1_; have HO436 := n2_; have HB := n3_; clear n0_ n1_ n2_ n3_; (try clear hb); (try clear hb2); (try clear hk); (try clear hi)) | ((with_reducible refine gate_callee (f := 15) rfl ?_); refine goesL_ (some 231) rfl rfl Try.func15 (by kernel_rfl) rfl #[.slice A0 l0.length c0] rfl (by (try simp only [List.map_toArray, List.map_cons, List.map_nil]); first | done | rfl | (simp only [List.length_drop, List.length_take]; rfl)) ?_; (with_reducible refine (impl_SpokesOf.calls kj9 _ _ l0 t440 t441 _ ?side1 ?side2 A54.out).mono ?_); (case side1 => repeat (first | exact (Kd.C_below HR0.out HB.out) | (with_reducible refine Kd.C_alloc ?_ _) | (with_reducible refine Kd.C_drewN ?_ _) | (with_reducible refine Kd.C_drew ?_))); (case side2 => exact HC0.out); rintro e w56 ⟨v442, rfl, ho0, hb⟩; refine ⟨_, rfl, ?_⟩; have n0_ := Aside0.mk (Kd.R_elder' (by (with_reducible repeat (first | apply Kd.R_alloc | apply Kd.R_drewN | apply Kd.R_drew)); exact HO420.out) (Kd.R_base ho0) hb); have n1_ := Aside0.mk (Kd.R_elder' (by (with_reducible repeat (first | apply Kd.R_alloc | apply Kd.R_drewN | apply Kd.R_drew)); exact HO424.out) (Kd.R_base ho0) hb); have n2_ := Aside0.mk (Kd.R_elder' (by (with_reducible repeat (first | apply Kd.R_alloc | apply Kd.R_drewN | apply Kd.R_drew)); exact HO436.out) (Kd.R_base ho0) hb); have n3_ := Aside0.mk (Kd.R_lower (Kd.R_new' (Kd.R_new' (Kd.R_new' ho0 (Kd.R_lt (by (with_reducible repeat (first | apply Kd.R_alloc | apply Kd.R_drewN | apply Kd.R_drew)); exact HO420.out))) (Kd.R_lt (by (with_reducible repeat (first | apply Kd.R_alloc | apply Kd.R_drewN | apply Kd.R_drew)); exact HO424.out))) (Kd.R_lt (by (with_reducible repeat (first | apply Kd.R_alloc | apply Kd.R_drewN | apply Kd.R_drew)); exact HO436.out))) (below_size (by repeat (first | (with_reducible first | exact HB.out | apply below_alloc | apply pw_below_drewN | apply below_drew1) | exact HB.out)))); have n4_ := Aside0.mk (below_step (by repeat (first | (with_reducible first | exact HB.out | apply below_alloc | apply pw_below_drewN | apply below_drew1) | exact HB.out)) hb); clear HO420; clear HO424; clear HO436; clear HB; have HO420 := n0_; have HO424 := n1_; have HO436 := n2_; have HO443 := n3_; have HB := n4_; clear n0_ n1_ n2_ n3_ n4_; (try clear hb); (try clear hb2); (try clear hk); (try clear hi); (try clear ho0)))
       as_aux_lemma =>
       go_loopg [43, 44, 236] kj9 (fun kq v43 v44 v236 w' => ∃ (x43_2 : Int) (x44_2 : Int) (x236_2 : Int), v43 = .int .i64 x43_2 ∧ v44 = .int .i64 x44_2 ∧ v236 = .int .i64 x236_2 ∧ Aside0 (laws_FnStepsAroundOfAll.l0 kq l0 l1 a2 l3 a4 l5 a6 l7 l8 t411 t412 t417 t425 t429 t433 t438 t439 t440 t441 x43_2 x44_2 t417 (t417.length : Int) x236_2 = some r) ∧ Aside0 (kq ≤ kj9) ∧ Aside0 (Kd.R (Kd.int .i64) 3 w' w.heap.size (fun k_ => some k_ ≠ (v435 : Value).ownBlock ∧ some k_ ≠ (v442 : Value).ownBlock) (.slice Ao50 t417.length co50) t417) ∧ Aside0 (Kd.R (Kd.int .i64) 3 w' w.heap.size (fun k_ => some k_ ≠ ((.slice Ao50 t417.length co50) : Value).ownBlock ∧ some k_ ≠ (v442 : Value).ownBlock ∧ some k_ ≠ ((.slice Ao50 t417.length co50) : Value).ownBlock) v435 t433) ∧ Aside0 (Kd.R (Kd.int .i64) 3 w' w.heap.size (fun k_ => some k_ ≠ ((.slice Ao50 t417.length co50) : Value).ownBlock ∧ some k_ ≠ (v435 : Value).ownBlock ∧ some k_ ≠ ((.slice Ao50 t417.length co50) : Value).ownBlock) v442 t440) ∧ Aside0 (Kd.R (Kd.int .i64) 3 w' w.heap.size (fun k_ => some k_ ≠ (v435 : Value).ownBlock ∧ some k_ ≠ (v442 : Value).ownBlock) (.slice Ao50 t417.length co50) t417) ∧ Aside0 (Below w.heap.size w w'))
       case atStart => exact ⟨(0), (0), (0), (by first | rfl | (simp; done) | (simp [*]; done)), (by first | rfl | (simp; done) | (simp [*]; done)), (by first | rfl | (simp; done) | (simp [*]; done)), H', ⟨Nat.le_refl _⟩, ⟨by (with_reducible repeat (first | apply Kd.R_alloc | apply Kd.R_drewN | apply Kd.R_drew)); exact Kd.R_mono HO420.out (fun _ hk => ⟨hk.1.2, hk.2⟩)⟩, ⟨by (with_reducible repeat (first | apply Kd.R_alloc | apply Kd.R_drewN | apply Kd.R_drew)); exact Kd.R_mono HO436.out (fun _ hk => ⟨hk.1.1.2, ⟨hk.2, hk.1.1.2⟩⟩)⟩, ⟨by (with_reducible repeat (first | apply Kd.R_alloc | apply Kd.R_drewN | apply Kd.R_drew)); exact Kd.R_mono HO443.out (fun _ hk => ⟨hk.1.1.2, ⟨hk.2, hk.1.1.2⟩⟩)⟩, ⟨by (with_reducible repeat (first | apply Kd.R_alloc | apply Kd.R_drewN | apply Kd.R_drew)); exact Kd.R_mono HO420.out (fun _ hk => ⟨hk.1.2, hk.2⟩)⟩, ⟨by repeat (first | (with_reducible first | exact HB.out | apply below_alloc | apply pw_below_drewN | apply below_drew1) | exact HB.out)⟩⟩
       case round =>
        as_aux_lemma =>
        clear H'
        try clear c1
        try clear c2
        try clear p2
        try clear c3
        try clear c5
        try clear c6
        try clear c7
        try clear c8
        try clear c11
        try clear c11b0
        try clear c11b1
        try clear c12
        try clear c12b0
        try clear c12b1
        try clear c13
        try clear c13b0
        try clear c13b1
        try clear c14
        try clear c14b0
        try clear c14b1
        try clear c15
        try clear c15b0
        try clear c15b1
        try clear c16
        try clear c17
        try clear c22
        try clear c26
        try clear c26b0
        try clear c26b1
        try clear c26b2
        try clear c27
        try clear c27b0
        try clear c27b1
        try clear c28
        try clear c28b0
        try clear c28b1
        try clear c29
        try clear c29b0
        try clear c29b1
        try clear c29b2
        try clear c30
        try clear c31
        try clear c32
        try clear c32b0
        try clear c32b1
        try clear c32b2
        try clear c33
        try clear c33b0
        try clear c33b1
        try clear c34
        try clear c34b0
        try clear c34b1
        try clear c34b2
        try clear c35
        try clear c35b0
        try clear c35b1
        try clear c35b2
        try clear c36
        try clear c36b0
        try clear c36b1
        try clear c36b2
        try clear c37
        try clear c37b0
        try clear c37b1
        try clear c37b2
        try clear c38
        try clear c38b0
        try clear c38b1
        try clear c38b2
        try clear c39
        try clear c39b0
        try clear c39b1
        try clear c39b2
        try clear c52
        try clear p2
        obtain ⟨x43_2, x44_2, x236_2, rfl, rfl, rfl, HA, HK2, HO_25, HO_37, HO_41, HO_234, HB⟩ := hrel
        cases gk with
        | zero => exact absurd HA.out (by simp [laws_FnStepsAroundOfAll.l0])
        | succ k2 =>
         have H := HA.out
         clear HA
         simp only [laws_FnStepsAroundOfAll.l0] at H
         by_cases c57 : x236_2 < (t417.length : Int)
         ·as_aux_lemma =>
          rw [if_pos c57] at H
          have c57b0 : decide (x236_2 < (t417.length : Int)) = true := decide_eq_true c57
          clear c57
          (first | rw [c57b0] | (simp only [i64_w, i32_w]; rw [c57b0]) | skip)
          have c58 : 0 ≤ x236_2 := Classical.byContradiction fun c58 => by
           rw [if_neg c58] at H
           exact absurd H (by simp)
          rw [if_pos c58] at H
          have c58b0 : decide (0 ≤ x236_2) = true := decide_eq_true c58
          clear c58
          have c59 : x236_2 < (t417.length : Int) := Classical.byContradiction fun c59 => by
           rw [if_neg c59] at H
           exact absurd H (by simp)
          rw [if_pos c59] at H
          have c59b0 : decide (x236_2 < (t417.length : Int)) = true := decide_eq_true c59
          clear c59
          replace H := Option.bind_eq_some_iff.mp H
          obtain ⟨⟨t445, t446⟩, A600, H⟩ := H
          replace H : (if t446 = true then (if t445 < 1 then (none) else ((laws_gHas.f k2 t433 (rd t417 x236_2)).bind fun t447 => (if t447 = true then (if x236_2 > 0 then (if 0 ≤ (wrap64 (x236_2 - 1)) then (if (wrap64 (x236_2 - 1)) < (t417.length : Int) then (if (rd t417 (wrap64 (x236_2 - 1))) ≥ (rd t417 x236_2) then (none) else (laws_FnStepsAroundOfAll.l0 k2 l0 l1 a2 l3 a4 l5 a6 l7 l8 t411 t412 t417 t425 t429 t433 t438 t439 t440 t441 (wrap64 (x43_2 + t445)) (rd t417 x236_2) t417 (t417.length : Int) (wrap64 (x236_2 + 1)))) else (none)) else (none)) else (laws_FnStepsAroundOfAll.l0 k2 l0 l1 a2 l3 a4 l5 a6 l7 l8 t411 t412 t417 t425 t429 t433 t438 t439 t440 t441 (wrap64 (x43_2 + t445)) (rd t417 x236_2) t417 (t417.length : Int) (wrap64 (x236_2 + 1)))) else (none)))) else (none)) = some r := H
          have A60 := Aside0.mk A600
          clear A600
          have c61 : t446 = true := Classical.byContradiction fun c61 => by
           replace c61 := Bool.eq_false_iff.mpr c61
           subst c61
           have H1 : (none) = some r := by rw [if_neg (show ¬ (false = true) by decide)] at H; exact H
           clear H
           have H := H1
           clear H1
           exact absurd H (by simp)
          subst c61
          have H1 : (if t445 < 1 then (none) else ((laws_gHas.f k2 t433 (rd t417 x236_2)).bind fun t447 => (if t447 = true then (if x236_2 > 0 then (if 0 ≤ (wrap64 (x236_2 - 1)) then (if (wrap64 (x236_2 - 1)) < (t417.length : Int) then (if (rd t417 (wrap64 (x236_2 - 1))) ≥ (rd t417 x236_2) then (none) else (laws_FnStepsAroundOfAll.l0 k2 l0 l1 a2 l3 a4 l5 a6 l7 l8 t411 t412 t417 t425 t429 t433 t438 t439 t440 t441 (wrap64 (x43_2 + t445)) (rd t417 x236_2) t417 (t417.length : Int) (wrap64 (x236_2 + 1)))) else (none)) else (none)) else (laws_FnStepsAroundOfAll.l0 k2 l0 l1 a2 l3 a4 l5 a6 l7 l8 t411 t412 t417 t425 t429 t433 t438 t439 t440 t441 (wrap64 (x43_2 + t445)) (rd t417 x236_2) t417 (t417.length : Int) (wrap64 (x236_2 + 1)))) else (none)))) = some r := by rw [if_pos rfl] at H; exact H
          clear H
          have H := H1
          clear H1
          have c62 : ¬ (t445 < 1) := fun c62 => by
           rw [if_pos c62] at H
           exact absurd H (by simp)
          rw [if_neg c62] at H
          have c62b0 : decide (t445 < 1) = false := decide_eq_false c62
          clear c62
          replace H := Option.bind_eq_some_iff.mp H
          obtain ⟨t447, A630, H⟩ := H
          replace H : (if t447 = true then (if x236_2 > 0 then (if 0 ≤ (wrap64 (x236_2 - 1)) then (if (wrap64 (x236_2 - 1)) < (t417.length : Int) then (if (rd t417 (wrap64 (x236_2 - 1))) ≥ (rd t417 x236_2) then (none) else (laws_FnStepsAroundOfAll.l0 k2 l0 l1 a2 l3 a4 l5 a6 l7 l8 t411 t412 t417 t425 t429 t433 t438 t439 t440 t441 (wrap64 (x43_2 + t445)) (rd t417 x236_2) t417 (t417.length : Int) (wrap64 (x236_2 + 1)))) else (none)) else (none)) else (laws_FnStepsAroundOfAll.l0 k2 l0 l1 a2 l3 a4 l5 a6 l7 l8 t411 t412 t417 t425 t429 t433 t438 t439 t440 t441 (wrap64 (x43_2 + t445)) (rd t417 x236_2) t417 (t417.length : Int) (wrap64 (x236_2 + 1)))) else (none)) = some r := H
          have A63 := Aside0.mk A630
          clear A630
          have c64 : t447 = true := Classical.byContradiction fun c64 => by
           replace c64 := Bool.eq_false_iff.mpr c64
           subst c64
           have H1 : (none) = some r := by rw [if_neg (show ¬ (false = true) by decide)] at H; exact H
           clear H
           have H := H1
           clear H1
           exact absurd H (by simp)
          subst c64
          have H1 : (if x236_2 > 0 then (if 0 ≤ (wrap64 (x236_2 - 1)) then (if (wrap64 (x236_2 - 1)) < (t417.length : Int) then (if (rd t417 (wrap64 (x236_2 - 1))) ≥ (rd t417 x236_2) then (none) else (laws_FnStepsAroundOfAll.l0 k2 l0 l1 a2 l3 a4 l5 a6 l7 l8 t411 t412 t417 t425 t429 t433 t438 t439 t440 t441 (wrap64 (x43_2 + t445)) (rd t417 x236_2) t417 (t417.length : Int) (wrap64 (x236_2 + 1)))) else (none)) else (none)) else (laws_FnStepsAroundOfAll.l0 k2 l0 l1 a2 l3 a4 l5 a6 l7 l8 t411 t412 t417 t425 t429 t433 t438 t439 t440 t441 (wrap64 (x43_2 + t445)) (rd t417 x236_2) t417 (t417.length : Int) (wrap64 (x236_2 + 1)))) = some r := by rw [if_pos rfl] at H; exact H
          clear H
          have H := H1
          clear H1
          by_cases c65 : x236_2 > 0
          ·as_aux_lemma =>
           rw [if_pos c65] at H
           have c65b0 : decide (0 < x236_2) = true := decide_eq_true c65
           clear c65
           obtain ⟨ji66, hji66⟩ : ∃ j_ : Int, (wrap64 (x236_2 - 1)) = j_ := ⟨_, rfl⟩
           replace H : (if 0 ≤ (ji66) then (if (ji66) < (t417.length : Int) then (if (rd t417 (ji66)) ≥ (rd t417 x236_2) then (none) else (laws_FnStepsAroundOfAll.l0 k2 l0 l1 a2 l3 a4 l5 a6 l7 l8 t411 t412 t417 t425 t429 t433 t438 t439 t440 t441 (wrap64 (x43_2 + t445)) (rd t417 x236_2) t417 (t417.length : Int) (wrap64 (x236_2 + 1)))) else (none)) else (none)) = some r := by first | (rw [hji66] at H; exact H) | (simp only [hji66] at H ⊢; exact H)
           (try rw [hji66] at A60)
           (try rw [hji66] at A63)
           have hji66w : (IntKind.i64.wrap (x236_2 - 1)) = ji66 := (i64_w _).trans hji66
           have c67 : 0 ≤ (ji66) := Classical.byContradiction fun c67 => by
            rw [if_neg c67] at H
            exact absurd H (by simp)
           rw [if_pos c67] at H
           have c67b0 : decide (0 ≤ (ji66)) = true := decide_eq_true c67
           clear c67
           have c68 : (ji66) < (t417.length : Int) := Classical.byContradiction fun c68 => by
            rw [if_neg c68] at H
            exact absurd H (by simp)
           rw [if_pos c68] at H
           have c68b0 : decide ((ji66) < (t417.length : Int)) = true := decide_eq_true c68
           clear c68
           have c69 : ¬ ((rd t417 (ji66)) ≥ (rd t417 x236_2)) := fun c69 => by
            rw [if_pos c69] at H
            exact absurd H (by simp)
           rw [if_neg c69] at H
           have c69b0 : decide ((rd t417 x236_2) ≤ (rd t417 (ji66))) = false := decide_eq_false c69
           clear c69
           have H' := Aside0.mk H
           clear H
           have p444 : 0 ≤ (x236_2 : Int) := of_decide_eq_true (by first | (with_reducible assumption) | assumption)
           have q444 : x236_2 < (t417.length : Int) := of_decide_eq_true (by first | (with_reducible assumption) | assumption)
           obtain ⟨ad444, e444, hx444_0⟩ := Kd.at_int (Kd.R_reads' HO_234.out).2.2 x236_2 p444 q444
           cases e444
           replace p444 := eq_true p444
           replace q444 := eq_true q444
           as_aux_lemma =>
           go_wp2_with (first | ((with_reducible refine gate_callee (f := 36) rfl ?_); refine goesL_ (some 244) rfl rfl Try.func36 (by kernel_rfl) rfl #[.slice A0 l0.length c0, .int .i64 (rd t417 x236_2)] rfl (by (try simp only [List.map_toArray, List.map_cons, List.map_nil]); first | done | rfl | (simp only [List.length_drop, List.length_take]; rfl)) ?_; (with_reducible refine (impl_CountStep.calls k2 _ _ l0 (rd t417 x236_2) t445 true _ ?side1 ?side2 A60.out).mono ?_); (case side1 => repeat (first | exact (Kd.C_below HR0.out HB.out) | (with_reducible refine Kd.C_alloc ?_ _) | (with_reducible refine Kd.C_drewN ?_ _) | (with_reducible refine Kd.C_drew ?_))); (case side2 => exact HC0.out); rintro e w70 ⟨rfl, hb⟩; refine ⟨_, rfl, ?_⟩; have n0_ := Aside0.mk (Kd.R_below (by (with_reducible repeat (first | apply Kd.R_alloc | apply Kd.R_drewN | apply Kd.R_drew)); exact HO_25.out) hb); have n1_ := Aside0.mk (Kd.R_below (by (with_reducible repeat (first | apply Kd.R_alloc | apply Kd.R_drewN | apply Kd.R_drew)); exact HO_37.out) hb); have n2_ := Aside0.mk (Kd.R_below (by (with_reducible repeat (first | apply Kd.R_alloc | apply Kd.R_drewN | apply Kd.R_drew)); exact HO_41.out) hb); have n3_ := Aside0.mk (Kd.R_below (by (with_reducible repeat (first | apply Kd.R_alloc | apply Kd.R_drewN | apply Kd.R_drew)); exact HO_234.out) hb); have n4_ := Aside0.mk (below_step (by repeat (first | (with_reducible first | exact HB.out | apply below_alloc | apply pw_below_drewN | apply below_drew1) | exact HB.out)) hb); clear HO_25; clear HO_37; clear HO_41; clear HO_234; clear HB; have HO_25 := n0_; have HO_37 := n1_; have HO_41 := n2_; have HO_234 := n3_; have HB := n4_; clear n0_ n1_ n2_ n3_ n4_; (try clear hb); (try clear hb2); (try clear hk); (try clear hi); obtain ⟨Ao71, co71, eo71⟩ := Kd.R_slice HO_37.out; subst eo71))
           as_aux_lemma =>
           go_wp2_with (first | (go_at_call 37; (with_reducible refine (laws_gHas.calls k2 _ _ t433 (rd t417 x236_2) true _ ?side1 ?side2 A63.out).mono ?_); (case side1 => repeat (first | exact (Kd.R_reads' HO_37.out).2.2 | (with_reducible refine Kd.C_alloc ?_ _) | (with_reducible refine Kd.C_drewN ?_ _) | (with_reducible refine Kd.C_drew ?_))); (case side2 => exact (Kd.R_reads' HO_37.out).2.1); rintro e w' ⟨rfl, ⟨nd, rfl⟩⟩; have p448 : 0 ≤ ((ji66) : Int) := of_decide_eq_true (by first | (with_reducible assumption) | assumption); have q448 : (ji66) < (t417.length : Int) := of_decide_eq_true (by first | (with_reducible assumption) | assumption); obtain ⟨ad448, e448, hx448_0⟩ := Kd.at_int (Kd.R_reads' HO_25.out).2.2 (ji66) p448 q448; obtain rfl : ad444 = ad448 := (by injection e448); replace p448 := eq_true p448; replace q448 := eq_true q448))
           first | go_roundg k2 | (try subst hji66; go_roundg k2)
           case measure => have := HJ9.out; have := HK2.out; omega
           case rel => exact ⟨(wrap64 (x43_2 + t445)), (rd t417 x236_2), (wrap64 (x236_2 + 1)), (by first | rfl | (simp; done) | (simp [*]; done)), (by first | rfl | (simp; done) | (simp [*]; done)), (by first | rfl | (simp; done) | (simp [*]; done)), H', ⟨by have := HJ9.out; have := HK2.out; omega⟩, ⟨by (with_reducible repeat (first | apply Kd.R_alloc | apply Kd.R_drewN | apply Kd.R_drew)); exact HO_25.out⟩, ⟨by (with_reducible repeat (first | apply Kd.R_alloc | apply Kd.R_drewN | apply Kd.R_drew)); exact HO_37.out⟩, ⟨by (with_reducible repeat (first | apply Kd.R_alloc | apply Kd.R_drewN | apply Kd.R_drew)); exact HO_41.out⟩, ⟨by (with_reducible repeat (first | apply Kd.R_alloc | apply Kd.R_drewN | apply Kd.R_drew)); exact HO_234.out⟩, ⟨by repeat (first | (with_reducible first | exact HB.out | apply below_alloc | apply pw_below_drewN | apply below_drew1) | exact HB.out)⟩⟩
          ·as_aux_lemma =>
           rw [if_neg c65] at H
           have c65b0 : decide (0 < x236_2) = false := decide_eq_false c65
           clear c65
           have H' := Aside0.mk H
           clear H
           have p444 : 0 ≤ (x236_2 : Int) := of_decide_eq_true (by first | (with_reducible assumption) | assumption)
           have q444 : x236_2 < (t417.length : Int) := of_decide_eq_true (by first | (with_reducible assumption) | assumption)
           obtain ⟨ad444, e444, hx444_0⟩ := Kd.at_int (Kd.R_reads' HO_234.out).2.2 x236_2 p444 q444
           cases e444
           replace p444 := eq_true p444
           replace q444 := eq_true q444
           as_aux_lemma =>
           go_wp2_with (first | ((with_reducible refine gate_callee (f := 36) rfl ?_); refine goesL_ (some 244) rfl rfl Try.func36 (by kernel_rfl) rfl #[.slice A0 l0.length c0, .int .i64 (rd t417 x236_2)] rfl (by (try simp only [List.map_toArray, List.map_cons, List.map_nil]); first | done | rfl | (simp only [List.length_drop, List.length_take]; rfl)) ?_; (with_reducible refine (impl_CountStep.calls k2 _ _ l0 (rd t417 x236_2) t445 true _ ?side1 ?side2 A60.out).mono ?_); (case side1 => repeat (first | exact (Kd.C_below HR0.out HB.out) | (with_reducible refine Kd.C_alloc ?_ _) | (with_reducible refine Kd.C_drewN ?_ _) | (with_reducible refine Kd.C_drew ?_))); (case side2 => exact HC0.out); rintro e w72 ⟨rfl, hb⟩; refine ⟨_, rfl, ?_⟩; have n0_ := Aside0.mk (Kd.R_below (by (with_reducible repeat (first | apply Kd.R_alloc | apply Kd.R_drewN | apply Kd.R_drew)); exact HO_25.out) hb); have n1_ := Aside0.mk (Kd.R_below (by (with_reducible repeat (first | apply Kd.R_alloc | apply Kd.R_drewN | apply Kd.R_drew)); exact HO_37.out) hb); have n2_ := Aside0.mk (Kd.R_below (by (with_reducible repeat (first | apply Kd.R_alloc | apply Kd.R_drewN | apply Kd.R_drew)); exact HO_41.out) hb); have n3_ := Aside0.mk (Kd.R_below (by (with_reducible repeat (first | apply Kd.R_alloc | apply Kd.R_drewN | apply Kd.R_drew)); exact HO_234.out) hb); have n4_ := Aside0.mk (below_step (by repeat (first | (with_reducible first | exact HB.out | apply below_alloc | apply pw_below_drewN | apply below_drew1) | exact HB.out)) hb); clear HO_25; clear HO_37; clear HO_41; clear HO_234; clear HB; have HO_25 := n0_; have HO_37 := n1_; have HO_41 := n2_; have HO_234 := n3_; have HB := n4_; clear n0_ n1_ n2_ n3_ n4_; (try clear hb); (try clear hb2); (try clear hk); (try clear hi); obtain ⟨Ao73, co73, eo73⟩ := Kd.R_slice HO_37.out; subst eo73))
           as_aux_lemma =>
           go_wp2_with (first | (go_at_call 37; (with_reducible refine (laws_gHas.calls k2 _ _ t433 (rd t417 x236_2) true _ ?side1 ?side2 A63.out).mono ?_); (case side1 => repeat (first | exact (Kd.R_reads' HO_37.out).2.2 | (with_reducible refine Kd.C_alloc ?_ _) | (with_reducible refine Kd.C_drewN ?_ _) | (with_reducible refine Kd.C_drew ?_))); (case side2 => exact (Kd.R_reads' HO_37.out).2.1); rintro e w' ⟨rfl, ⟨nd, rfl⟩⟩))
           first | go_roundg k2 | (try subst hji66; go_roundg k2)
           case measure => have := HJ9.out; have := HK2.out; omega
           case rel => exact ⟨(wrap64 (x43_2 + t445)), (rd t417 x236_2), (wrap64 (x236_2 + 1)), (by first | rfl | (simp; done) | (simp [*]; done)), (by first | rfl | (simp; done) | (simp [*]; done)), (by first | rfl | (simp; done) | (simp [*]; done)), H', ⟨by have := HJ9.out; have := HK2.out; omega⟩, ⟨by (with_reducible repeat (first | apply Kd.R_alloc | apply Kd.R_drewN | apply Kd.R_drew)); exact HO_25.out⟩, ⟨by (with_reducible repeat (first | apply Kd.R_alloc | apply Kd.R_drewN | apply Kd.R_drew)); exact HO_37.out⟩, ⟨by (with_reducible repeat (first | apply Kd.R_alloc | apply Kd.R_drewN | apply Kd.R_drew)); exact HO_41.out⟩, ⟨by (with_reducible repeat (first | apply Kd.R_alloc | apply Kd.R_drewN | apply Kd.R_drew)); exact HO_234.out⟩, ⟨by repeat (first | (with_reducible first | exact HB.out | apply below_alloc | apply pw_below_drewN | apply below_drew1) | exact HB.out)⟩⟩
         ·as_aux_lemma =>
          rw [if_neg c57] at H
          have c57b0 : decide (x236_2 < (t417.length : Int)) = false := decide_eq_false c57
          clear c57
          (first | rw [c57b0] | (simp only [i64_w, i32_w]; rw [c57b0]) | skip)
          have c74 : t439 = true := Classical.byContradiction fun c74 => by
           replace c74 := Bool.eq_false_iff.mpr c74
           subst c74
           have H1 : (none) = some r := by rw [if_neg (show ¬ (false = true) by decide)] at H; exact H
           clear H
           have H := H1
           clear H1
           exact absurd H (by simp)
          subst c74
          have H1 : (if t425 = 0 then (none) else (if (Int.tmod t438 t425) = 0 then (if t441 = true then (if x43_2 = (t433.length : Int) then (if x44_2 = t411 then ((laws_gHas.f k2 t440 t412).bind fun t449 => (if t449 = true then (if t438 = 0 then (none) else (if (Int.tmod (wrap64 ((t440.length : Int) * t425)) t438) = 0 then (laws_FnStepsAroundOfAll.l1 k2 l1 a2 l3 a4 l5 a6 l7 l8 t411 t412 t429 t433 t438 t440 t433 (t433.length : Int) 0) else (none))) else (none))) else (none)) else (none)) else (none)) else (none))) = some r := by rw [if_pos rfl] at H; exact H
          clear H
          have H := H1
          clear H1
          have c75 : ¬ (t425 = 0) := fun c75 => by
           rw [if_pos c75] at H
           exact absurd H (by simp)
          rw [if_neg c75] at H
          have c75b0 : (t425 == 0) = false := beq_eq_false_iff_ne.mpr c75
          have c75b1 : (t425 != 0) = true := bne_iff_ne.mpr c75
          have c76 : (Int.tmod t438 t425) = 0 := Classical.byContradiction fun c76 => by
           rw [if_neg c76] at H
           exact absurd H (by simp)
          rw [if_pos c76] at H
          have c76b0 : ((Int.tmod t438 t425) == 0) = true := beq_iff_eq.mpr c76
          have c76b1 : ((Int.tmod t438 t425) != 0) = false := bne_eq_false_iff_eq.mpr c76
          clear c76
          have c77 : t441 = true := Classical.byContradiction fun c77 => by
           replace c77 := Bool.eq_false_iff.mpr c77
           subst c77
           have H1 : (none) = some r := by rw [if_neg (show ¬ (false = true) by decide)] at H; exact H
           clear H
           have H := H1
           clear H1
           exact absurd H (by simp)
          subst c77
          have H1 : (if x43_2 = (t433.length : Int) then (if x44_2 = t411 then ((laws_gHas.f k2 t440 t412).bind fun t449 => (if t449 = true then (if t438 = 0 then (none) else (if (Int.tmod (wrap64 ((t440.length : Int) * t425)) t438) = 0 then (laws_FnStepsAroundOfAll.l1 k2 l1 a2 l3 a4 l5 a6 l7 l8 t411 t412 t429 t433 t438 t440 t433 (t433.length : Int) 0) else (none))) else (none))) else (none)) else (none)) = some r := by rw [if_pos rfl] at H; exact H
          clear H
          have H := H1
          clear H1
          have c78 : x43_2 = (t433.length : Int) := Classical.byContradiction fun c78 => by
           rw [if_neg c78] at H
           exact absurd H (by simp)
          rw [if_pos c78] at H
          have c78b0 : (x43_2 == (t433.length : Int)) = true := beq_iff_eq.mpr c78
          have c78b1 : (x43_2 != (t433.length : Int)) = false := bne_eq_false_iff_eq.mpr c78
          clear c78
          have c79 : x44_2 = t411 := Classical.byContradiction fun c79 => by
           rw [if_neg c79] at H
           exact absurd H (by simp)
          rw [if_pos c79] at H
          have c79b0 : (x44_2 == t411) = true := beq_iff_eq.mpr c79
          have c79b1 : (x44_2 != t411) = false := bne_eq_false_iff_eq.mpr c79
          clear c79
          replace H := Option.bind_eq_some_iff.mp H
          obtain ⟨t449, A800, H⟩ := H
          replace H : (if t449 = true then (if t438 = 0 then (none) else (if (Int.tmod (wrap64 ((t440.length : Int) * t425)) t438) = 0 then (laws_FnStepsAroundOfAll.l1 k2 l1 a2 l3 a4 l5 a6 l7 l8 t411 t412 t429 t433 t438 t440 t433 (t433.length : Int) 0) else (none))) else (none)) = some r := H
          have A80 := Aside0.mk A800
          clear A800
          have c81 : t449 = true := Classical.byContradiction fun c81 => by
           replace c81 := Bool.eq_false_iff.mpr c81
           subst c81
           have H1 : (none) = some r := by rw [if_neg (show ¬ (false = true) by decide)] at H; exact H
           clear H
           have H := H1
           clear H1
           exact absurd H (by simp)
          subst c81
          have H1 : (if t438 = 0 then (none) else (if (Int.tmod (wrap64 ((t440.length : Int) * t425)) t438) = 0 then (laws_FnStepsAroundOfAll.l1 k2 l1 a2 l3 a4 l5 a6 l7 l8 t411 t412 t429 t433 t438 t440 t433 (t433.length : Int) 0) else (none))) = some r := by rw [if_pos rfl] at H; exact H
          clear H
          have H := H1
          clear H1
          have c82 : ¬ (t438 = 0) := fun c82 => by
           rw [if_pos c82] at H
           exact absurd H (by simp)
          rw [if_neg c82] at H
          have c82b0 : (t438 == 0) = false := beq_eq_false_iff_ne.mpr c82
          have c82b1 : (t438 != 0) = true := bne_iff_ne.mpr c82
          have c83 : (Int.tmod (wrap64 ((t440.length : Int) * t425)) t438) = 0 := Classical.byContradiction fun c83 => by
           rw [if_neg c83] at H
           exact absurd H (by simp)
          rw [if_pos c83] at H
          have c83b0 : ((Int.tmod (wrap64 ((t440.length : Int) * t425)) t438) == 0) = true := beq_iff_eq.mpr c83
          have c83b1 : ((Int.tmod (wrap64 ((t440.length : Int) * t425)) t438) != 0) = false := bne_eq_false_iff_eq.mpr c83
          clear c83
          have H' := Aside0.mk H
          clear H
          obtain ⟨Ao84, co84, eo84⟩ := Kd.R_slice HO_37.out
          subst eo84
          obtain ⟨Ao85, co85, eo85⟩ := Kd.R_slice HO_41.out
          subst eo85
          as_aux_lemma =>
          go_wp2_with (first | (go_at_call 37; (with_reducible refine (laws_gHas.calls k2 _ _ t440 t412 true _ ?side1 ?side2 A80.out).mono ?_); (case side1 => repeat (first | exact (Kd.R_reads' HO_41.out).2.2 | (with_reducible refine Kd.C_alloc ?_ _) | (with_reducible refine Kd.C_drewN ?_ _) | (with_reducible refine Kd.C_drew ?_))); (case side2 => exact (Kd.R_reads' HO_41.out).2.1); rintro e w' ⟨rfl, ⟨nd, rfl⟩⟩))
          as_aux_lemma =>
          go_loopg [317] k2 (fun kq v317 w' => ∃ (x317_3 : Int), v317 = .int .i64 x317_3 ∧ Aside0 (laws_FnStepsAroundOfAll.l1 kq l1 a2 l3 a4 l5 a6 l7 l8 t411 t412 t429 t433 t438 t440 t433 (t433.length : Int) x317_3 = some r) ∧ Aside0 (kq ≤ k2) ∧ Aside0 (Kd.R (Kd.int .i64) 3 w' w.heap.size (fun k_ => some k_ ≠ ((.slice Ao85 t440.length co85) : Value).ownBlock) (.slice Ao84 t433.length co84) t433) ∧ Aside0 (Kd.R (Kd.int .i64) 3 w' w.heap.size (fun k_ => some k_ ≠ ((.slice Ao84 t433.length co84) : Value).ownBlock ∧ some k_ ≠ ((.slice Ao84 t433.length co84) : Value).ownBlock) (.slice Ao85 t440.length co85) t440) ∧ Aside0 (Kd.R (Kd.int .i64) 3 w' w.heap.size (fun k_ => some k_ ≠ ((.slice Ao85 t440.length co85) : Value).ownBlock) (.slice Ao84 t433.length co84) t433) ∧ Aside0 (Below w.heap.size w w'))
          case atStart => exact ⟨(0), (by first | rfl | (simp; done) | (simp [*]; done)), H', ⟨Nat.le_refl _⟩, ⟨by (with_reducible repeat (first | apply Kd.R_alloc | apply Kd.R_drewN | apply Kd.R_drew)); exact Kd.R_mono HO_37.out (fun _ hk => hk.2.1)⟩, ⟨by (with_reducible repeat (first | apply Kd.R_alloc | apply Kd.R_drewN | apply Kd.R_drew)); exact Kd.R_mono HO_41.out (fun _ hk => ⟨hk.2.1, hk.2.1⟩)⟩, ⟨by (with_reducible repeat (first | apply Kd.R_alloc | apply Kd.R_drewN | apply Kd.R_drew)); exact Kd.R_mono HO_37.out (fun _ hk => hk.2.1)⟩, ⟨by repeat (first | (with_reducible first | exact HB.out | apply below_alloc | apply pw_below_drewN | apply below_drew1) | exact HB.out)⟩⟩
          case round =>
           as_aux_lemma =>
           clear H'
           try clear c1
           try clear c2
           try clear p2
           try clear c3
           try clear p4
           try clear q4
           try clear hx4
           try clear c5
           try clear c6
           try clear p6
           try clear c7
           try clear c8
           try clear c11
           try clear c11b0
           try clear c11b1
           try clear c12
           try clear c12b0
           try clear c12b1
           try clear c13
           try clear c13b0
           try clear c13b1
           try clear c14
           try clear c14b0
           try clear c14b1
           try clear c15
           try clear c15b0
           try clear c15b1
           try clear c16
           try clear c17
           try clear c22
           try clear c26
           try clear c26b0
           try clear c26b1
           try clear c26b2
           try clear c27
           try clear c27b0
           try clear c27b1
           try clear c28
           try clear c28b0
           try clear c28b1
           try clear c29
           try clear c29b0
           try clear c29b1
           try clear c29b2
           try clear c30
           try clear c31
           try clear c32
           try clear c32b0
           try clear c32b1
           try clear c32b2
           try clear c33
           try clear c33b0
           try clear c33b1
           try clear c34
           try clear c34b0
           try clear c34b1
           try clear c34b2
           try clear c35
           try clear c35b0
           try clear c35b1
           try clear c35b2
           try clear c36
           try clear c36b0
           try clear c36b1
           try clear c36b2
           try clear c37
           try clear c37b0
           try clear c37b1
           try clear c37b2
           try clear c38
           try clear c38b0
           try clear c38b1
           try clear c38b2
           try clear c39
           try clear c39b0
           try clear c39b1
           try clear c39b2
           try clear p44
           try clear q44
           try clear hx44
           try clear c52
           try clear c57
           try clear c57b0
           try clear c58
           try clear c58b0
           try clear c59
           try clear c59b0
           try clear c61
           try clear c62
           try clear c62b0
           try clear c64
           try clear p64
           try clear c65
           try clear c65b0
           try clear c67
           try clear c67b0
           try clear c68
           try clear c68b0
           try clear c69
           try clear c69b0
           try clear c74
           try clear c75
           try clear c75b0
           try clear c75b1
           try clear c76
           try clear c76b0
           try clear c76b1
           try clear c77
           try clear c78
           try clear c78b0
           try clear c78b1
           try clear c79
           try clear c79b0
           try clear c79b1
           try clear c81
           try clear c82
           try clear c82b0
           try clear c82b1
           try clear c83
           try clear c83b0
           try clear c83b1
           try clear hx444_0
           try clear hx448_0
           try clear p2
           try clear p444
           try clear p448
           try clear q444
           try clear q448
           obtain ⟨x317_3, rfl, HA, HK3, HO_37, HO_41, HO_315, HB⟩ := hrel
           cases gk with
           | zero => exact absurd HA.out (by simp [laws_FnStepsAroundOfAll.l1])
           | succ k3 =>
            have H := HA.out
            clear HA
            simp only [laws_FnStepsAroundOfAll.l1] at H
            by_cases c86 : x317_3 < (t433.length : Int)
            ·as_aux_lemma =>
             rw [if_pos c86] at H
             have c86b0 : decide (x317_3 < (t433.length : Int)) = true := decide_eq_true c86
             clear c86
             have c87 : 0 ≤ x317_3 := Classical.byContradiction fun c87 => by
              rw [if_neg c87] at H
              exact absurd H (by simp)
             rw [if_pos c87] at H
             have c87b0 : decide (0 ≤ x317_3) = true := decide_eq_true c87
             clear c87
             have c88 : x317_3 < (t433.length : Int) := Classical.byContradiction fun c88 => by
              rw [if_neg c88] at H
              exact absurd H (by simp)
             rw [if_pos c88] at H
             have c88b0 : decide (x317_3 < (t433.length : Int)) = true := decide_eq_true c88
             clear c88
             have c89 : ¬ ((rd t433 x317_3) > t411) := fun c89 => by
              rw [if_pos c89] at H
              exact absurd H (by simp)
             rw [if_neg c89] at H
             have c89b0 : decide (t411 < (rd t433 x317_3)) = false := decide_eq_false c89
             clear c89
             by_cases c90 : (rd t433 x317_3) = t411
             ·as_aux_lemma =>
              rw [if_pos c90] at H
              have c90b0 : ((rd t433 x317_3) == t411) = true := beq_iff_eq.mpr c90
              have c90b1 : ((rd t433 x317_3) != t411) = false := bne_eq_false_iff_eq.mpr c90
              clear c90
              have c91 : x317_3 < (t440.length : Int) := Classical.byContradiction fun c91 => by
               rw [if_neg c91] at H
               exact absurd H (by simp)
              rw [if_pos c91] at H
              have c91b0 : decide (x317_3 < (t440.length : Int)) = true := decide_eq_true c91
              clear c91
              have c92 : ¬ ((rd t440 x317_3) < t412) := fun c92 => by
               rw [if_pos c92] at H
               exact absurd H (by simp)
              rw [if_neg c92] at H
              have c92b0 : decide ((rd t440 x317_3) < t412) = false := decide_eq_false c92
              clear c92
              have H' := Aside0.mk H
              clear H
              have p450 : 0 ≤ (x317_3 : Int) := of_decide_eq_true (by first | (with_reducible assumption) | assumption)
              have q450 : x317_3 < (t433.length : Int) := of_decide_eq_true (by first | (with_reducible assumption) | assumption)
              obtain ⟨ad450, e450, hx450_0⟩ := Kd.at_int (Kd.R_reads' HO_315.out).2.2 x317_3 p450 q450
              cases e450
              replace p450 := eq_true p450
              replace q450 := eq_true q450
              have p451 : 0 ≤ (x317_3 : Int) := of_decide_eq_true (by first | (with_reducible assumption) | assumption)
              have q451 : x317_3 < (t440.length : Int) := of_decide_eq_true (by first | (with_reducible assumption) | assumption)
              obtain ⟨ad451, e451, hx451_0⟩ := Kd.at_int (Kd.R_reads' HO_41.out).2.2 x317_3 p451 q451
              cases e451
              replace p451 := eq_true p451
              replace q451 := eq_true q451
              as_aux_lemma =>
              go_wp2
              first | go_roundg k3 | (try subst hji66; go_roundg k3)
              case measure => have := HJ9.out; have := HK2.out; have := HK3.out; omega
              case rel => exact ⟨(wrap64 (x317_3 + 1)), (by first | rfl | (simp; done) | (simp [*]; done)), H', ⟨by have := HJ9.out; have := HK2.out; have := HK3.out; omega⟩, ⟨by (with_reducible repeat (first | apply Kd.R_alloc | apply Kd.R_drewN | apply Kd.R_drew)); exact HO_37.out⟩, ⟨by (with_reducible repeat (first | apply Kd.R_alloc | apply Kd.R_drewN | apply Kd.R_drew)); exact HO_41.out⟩, ⟨by (with_reducible repeat (first | apply Kd.R_alloc | apply Kd.R_drewN | apply Kd.R_drew)); exact HO_315.out⟩, ⟨by repeat (first | (with_reducible first | exact HB.out | apply below_alloc | apply pw_below_drewN | apply below_drew1) | exact HB.out)⟩⟩
             ·as_aux_lemma =>
              rw [if_neg c90] at H
              have c90b0 : ((rd t433 x317_3) == t411) = false := beq_eq_false_iff_ne.mpr c90
              have c90b1 : ((rd t433 x317_3) != t411) = true := bne_iff_ne.mpr c90
              have H' := Aside0.mk H
              clear H
              have p450 : 0 ≤ (x317_3 : Int) := of_decide_eq_true (by first | (with_reducible assumption) | assumption)
              have q450 : x317_3 < (t433.length : Int) := of_decide_eq_true (by first | (with_reducible assumption) | assumption)
              obtain ⟨ad450, e450, hx450_0⟩ := Kd.at_int (Kd.R_reads' HO_315.out).2.2 x317_3 p450 q450
              cases e450
              replace p450 := eq_true p450
              replace q450 := eq_true q450
              as_aux_lemma =>
              go_wp2
              first | go_roundg k3 | (try subst hji66; go_roundg k3)
              case measure => have := HJ9.out; have := HK2.out; have := HK3.out; omega
              case rel => exact ⟨(wrap64 (x317_3 + 1)), (by first | rfl | (simp; done) | (simp [*]; done)), H', ⟨by have := HJ9.out; have := HK2.out; have := HK3.out; omega⟩, ⟨by (with_reducible repeat (first | apply Kd.R_alloc | apply Kd.R_drewN | apply Kd.R_drew)); exact HO_37.out⟩, ⟨by (with_reducible repeat (first | apply Kd.R_alloc | apply Kd.R_drewN | apply Kd.R_drew)); exact HO_41.out⟩, ⟨by (with_reducible repeat (first | apply Kd.R_alloc | apply Kd.R_drewN | apply Kd.R_drew)); exact HO_315.out⟩, ⟨by repeat (first | (with_reducible first | exact HB.out | apply below_alloc | apply pw_below_drewN | apply below_drew1) | exact HB.out)⟩⟩
            ·as_aux_lemma =>
             rw [if_neg c86] at H
             have c86b0 : decide (x317_3 < (t433.length : Int)) = false := decide_eq_false c86
             clear c86
             by_cases c93 : t429 = true
             ·subst c93
              have H1 : (laws_FnStepsAroundOfAll.l2 k3 l1 a2 l3 a4 l5 a6 l7 l8 t433 t438 t440 t433 (t433.length : Int) 0) = some r := by rw [if_pos rfl] at H; exact H
              clear H
              have H := H1
              clear H1
              have H' := Aside0.mk H
              clear H
              as_aux_lemma =>
              go_wp2
              as_aux_lemma =>
              go_loopg [342] k3 (fun kq v342 w' => ∃ (x342_4 : Int), v342 = .int .i64 x342_4 ∧ Aside0 (laws_FnStepsAroundOfAll.l2 kq l1 a2 l3 a4 l5 a6 l7 l8 t433 t438 t440 t433 (t433.length : Int) x342_4 = some r) ∧ Aside0 (kq ≤ k3) ∧ Aside0 (Kd.R (Kd.int .i64) 3 w' w.heap.size (fun k_ => some k_ ≠ ((.slice Ao85 t440.length co85) : Value).ownBlock) (.slice Ao84 t433.length co84) t433) ∧ Aside0 (Kd.R (Kd.int .i64) 3 w' w.heap.size (fun k_ => some k_ ≠ ((.slice Ao84 t433.length co84) : Value).ownBlock ∧ some k_ ≠ ((.slice Ao84 t433.length co84) : Value).ownBlock) (.slice Ao85 t440.length co85) t440) ∧ Aside0 (Kd.R (Kd.int .i64) 3 w' w.heap.size (fun k_ => some k_ ≠ ((.slice Ao85 t440.length co85) : Value).ownBlock) (.slice Ao84 t433.length co84) t433) ∧ Aside0 (Below w.heap.size w w'))
              case atStart => exact ⟨(0), (by first | rfl | (simp; done) | (simp [*]; done)), H', ⟨Nat.le_refl _⟩, ⟨by (with_reducible repeat (first | apply Kd.R_alloc | apply Kd.R_drewN | apply Kd.R_drew)); exact HO_37.out⟩, ⟨by (with_reducible repeat (first | apply Kd.R_alloc | apply Kd.R_drewN | apply Kd.R_drew)); exact Kd.R_mono HO_41.out (fun _ hk => ⟨hk.1, hk.1⟩)⟩, ⟨by (with_reducible repeat (first | apply Kd.R_alloc | apply Kd.R_drewN | apply Kd.R_drew)); exact HO_37.out⟩, ⟨by repeat (first | (with_reducible first | exact HB.out | apply below_alloc | apply pw_below_drewN | apply below_drew1) | exact HB.out)⟩⟩
              case round =>
               as_aux_lemma =>
               clear H'
               try clear c1
               try clear c2
               try clear p2
               try clear c3
               try clear p4
               try clear q4
               try clear hx4
               try clear c5
               try clear c6
               try clear p6
               try clear c7
               try clear c8
               try clear c9
               try clear c11
               try clear c11b0
               try clear c11b1
               try clear c12
               try clear c12b0
               try clear c12b1
               try clear c13
               try clear c13b0
               try clear c13b1
               try clear c14
               try clear c14b0
               try clear c14b1
               try clear c15
               try clear c15b0
               try clear c15b1
               try clear c16
               try clear c17
               try clear c22
               try clear c26
               try clear c26b0
               try clear c26b1
               try clear c26b2
               try clear c27
               try clear c27b0
               try clear c27b1
               try clear c28
               try clear c28b0
               try clear c28b1
               try clear c29
               try clear c29b0
               try clear c29b1
               try clear c29b2
               try clear c30
               try clear c31
               try clear c32
               try clear c32b0
               try clear c32b1
               try clear c32b2
               try clear c33
               try clear c33b0
               try clear c33b1
               try clear c34
               try clear c34b0
               try clear c34b1
               try clear c34b2
               try clear c35
               try clear c35b0
               try clear c35b1
               try clear c35b2
               try clear c36
               try clear c36b0
               try clear c36b1
               try clear c36b2
               try clear c37
               try clear c37b0
               try clear c37b1
               try clear c37b2
               try clear c38
               try clear c38b0
               try clear c38b1
               try clear c38b2
               try clear c39
               try clear c39b0
               try clear c39b1
               try clear c39b2
               try clear p44
               try clear q44
               try clear hx44
               try clear p45
               try clear q45
               try clear hx45
               try clear c52
               try clear c57
               try clear c57b0
               try clear c58
               try clear c58b0
               try clear c59
               try clear c59b0
               try clear c61
               try clear c62
               try clear c62b0
               try clear c64
               try clear p64
               try clear c65
               try clear c65b0
               try clear c67
               try clear c67b0
               try clear c68
               try clear c68b0
               try clear c69
               try clear c69b0
               try clear c74
               try clear c75
               try clear c75b0
               try clear c75b1
               try clear c76
               try clear c76b0
               try clear c76b1
               try clear c77
               try clear c78
               try clear c78b0
               try clear c78b1
               try clear c79
               try clear c79b0
               try clear c79b1
               try clear c81
               try clear c82
               try clear c82b0
               try clear c82b1
               try clear c83
               try clear c83b0
               try clear c83b1
               try clear c86
               try clear c86b0
               try clear c87
               try clear c87b0
               try clear c88
               try clear c88b0
               try clear c89
               try clear c89b0
               try clear c90
               try clear c90b0
               try clear c90b1
               try clear c91
               try clear c91b0
               try clear c92
               try clear c92b0
               try clear c93
               try clear hx444_0
               try clear hx448_0
               try clear hx450_0
               try clear hx451_0
               try clear p2
               try clear p4
               try clear p44
               try clear p444
               try clear p448
               try clear p450
               try clear p451
               try clear p6
               try clear p64
               try clear q4
               try clear q44
               try clear q444
               try clear q448
               try clear q450
               try clear q451
               obtain ⟨x342_4, rfl, HA, HK4, HO_37, HO_41, HO_340, HB⟩ := hrel
               cases gk with
               | zero => exact absurd HA.out (by simp [laws_FnStepsAroundOfAll.l2])
               | succ k4 =>
                have H := HA.out
                clear HA
                simp only [laws_FnStepsAroundOfAll.l2] at H
                by_cases c94 : x342_4 < (t433.length : Int)
                ·as_aux_lemma =>
                 rw [if_pos c94] at H
                 have c94b0 : decide (x342_4 < (t433.length : Int)) = true := decide_eq_true c94
                 clear c94
                 have c95 : 0 ≤ x342_4 := Classical.byContradiction fun c95 => by
                  rw [if_neg c95] at H
                  exact absurd H (by simp)
                 rw [if_pos c95] at H
                 have c95b0 : decide (0 ≤ x342_4) = true := decide_eq_true c95
                 clear c95
                 have c96 : x342_4 < (t433.length : Int) := Classical.byContradiction fun c96 => by
                  rw [if_neg c96] at H
                  exact absurd H (by simp)
                 rw [if_pos c96] at H
                 have c96b0 : decide (x342_4 < (t433.length : Int)) = true := decide_eq_true c96
                 clear c96
                 obtain ⟨ji97, hji97⟩ : ∃ j_ : Int, (wrap64 ((t440.length : Int) - 1)) = j_ := ⟨_, rfl⟩
                 replace H : (if 0 ≤ (ji97) then (if (ji97) < (t440.length : Int) then (if (rd t440 (ji97)) = t438 then (if (t433.length : Int) = 0 then (none) else (if 0 ≤ (Int.tmod (wrap64 ((wrap64 ((wrap64 ((wrap64 ((t433.length : Int) - 2)) - x342_4)) - 1)) + (wrap64 (3 * (t433.length : Int))))) (t433.length : Int)) then (if (Int.tmod (wrap64 ((wrap64 ((wrap64 ((wrap64 ((t433.length : Int) - 2)) - x342_4)) - 1)) + (wrap64 (3 * (t433.length : Int))))) (t433.length : Int)) < (t433.length : Int) then (if (rd t433 (Int.tmod (wrap64 ((wrap64 ((wrap64 ((wrap64 ((t433.length : Int) - 2)) - x342_4)) - 1)) + (wrap64 (3 * (t433.length : Int))))) (t433.length : Int))) = (rd t433 x342_4) then (laws_FnStepsAroundOfAll.l2 k4 l1 a2 l3 a4 l5 a6 l7 l8 t433 t438 t440 t433 (t433.length : Int) (wrap64 (x342_4 + 1))) else (none)) else (none)) else (none))) else (if (t433.length : Int) = 0 then (none) else (if 0 ≤ (Int.tmod (wrap64 ((wrap64 ((wrap64 ((t433.length : Int) - 2)) - x342_4)) + (wrap64 (3 * (t433.length : Int))))) (t433.length : Int)) then (if (Int.tmod (wrap64 ((wrap64 ((wrap64 ((t433.length : Int) - 2)) - x342_4)) + (wrap64 (3 * (t433.length : Int))))) (t433.length : Int)) < (t433.length : Int) then (if (rd t433 (Int.tmod (wrap64 ((wrap64 ((wrap64 ((t433.length : Int) - 2)) - x342_4)) + (wrap64 (3 * (t433.length : Int))))) (t433.length : Int))) = (rd t433 x342_4) then (laws_FnStepsAroundOfAll.l2 k4 l1 a2 l3 a4 l5 a6 l7 l8 t433 t438 t440 t433 (t433.length : Int) (wrap64 (x342_4 + 1))) else (none)) else (none)) else (none)))) else (none)) else (none)) = some r := by first | (rw [hji97] at H; exact H) | (simp only [hji97] at H ⊢; exact H)
                 have hji97w : (IntKind.i64.wrap ((t440.length : Int) - 1)) = ji97 := (i64_w _).trans hji97
                 have c98 : 0 ≤ (ji97) := Classical.byContradiction fun c98 => by
                  rw [if_neg c98] at H
                  exact absurd H (by simp)
                 rw [if_pos c98] at H
                 have c98b0 : decide (0 ≤ (ji97)) = true := decide_eq_true c98
                 clear c98
                 have c99 : (ji97) < (t440.length : Int) := Classical.byContradiction fun c99 => by
                  rw [if_neg c99] at H
                  exact absurd H (by simp)
                 rw [if_pos c99] at H
                 have c99b0 : decide ((ji97) < (t440.length : Int)) = true := decide_eq_true c99
                 clear c99
                 by_cases c100 : (rd t440 (ji97)) = t438
                 ·as_aux_lemma =>
                  rw [if_pos c100] at H
                  have c100b0 : ((rd t440 (ji97)) == t438) = true := beq_iff_eq.mpr c100
                  have c100b1 : ((rd t440 (ji97)) != t438) = false := bne_eq_false_iff_eq.mpr c100
                  clear c100
                  have c101 : ¬ ((t433.length : Int) = 0) := fun c101 => by
                   rw [if_pos c101] at H
                   exact absurd H (by simp)
                  rw [if_neg c101] at H
                  have c101b0 : ((t433.length : Int) == 0) = false := beq_eq_false_iff_ne.mpr c101
                  have c101b1 : ((t433.length : Int) != 0) = true := bne_iff_ne.mpr c101
                  have c101b2 : ¬ (t433 = []) := fun h_ => c101 (by rw [h_]; rfl)
                  obtain ⟨ji102, hji102⟩ : ∃ j_ : Int, (Int.tmod (wrap64 ((wrap64 ((wrap64 ((wrap64 ((t433.length : Int) - 2)) - x342_4)) - 1)) + (wrap64 (3 * (t433.length : Int))))) (t433.length : Int)) = j_ := ⟨_, rfl⟩
                  replace H : (if 0 ≤ (ji102) then (if (ji102) < (t433.length : Int) then (if (rd t433 (ji102)) = (rd t433 x342_4) then (laws_FnStepsAroundOfAll.l2 k4 l1 a2 l3 a4 l5 a6 l7 l8 t433 t438 t440 t433 (t433.length : Int) (wrap64 (x342_4 + 1))) else (none)) else (none)) else (none)) = some r := by first | (rw [hji102] at H; exact H) | (simp only [hji102] at H ⊢; exact H)
                  have c103 : 0 ≤ (ji102) := Classical.byContradiction fun c103 => by
                   rw [if_neg c103] at H
                   exact absurd H (by simp)
                  rw [if_pos c103] at H
                  have c103b0 : decide (0 ≤ (ji102)) = true := decide_eq_true c103
                  clear c103
                  have c104 : (ji102) < (t433.length : Int) := Classical.byContradiction fun c104 => by
                   rw [if_neg c104] at H
                   exact absurd H (by simp)
                  rw [if_pos c104] at H
                  have c104b0 : decide ((ji102) < (t433.length : Int)) = true := decide_eq_true c104
                  clear c104
                  have c105 : (rd t433 (ji102)) = (rd t433 x342_4) := Classical.byContradiction fun c105 => by
                   rw [if_neg c105] at H
                   exact absurd H (by simp)
                  rw [if_pos c105] at H
                  have c105b0 : ((rd t433 (ji102)) == (rd t433 x342_4)) = true := beq_iff_eq.mpr c105
                  have c105b1 : ((rd t433 (ji102)) != (rd t433 x342_4)) = false := bne_eq_false_iff_eq.mpr c105
                  clear c105
                  have H' := Aside0.mk H
                  clear H
                  have p452 : 0 ≤ (x342_4 : Int) := of_decide_eq_true (by first | (with_reducible assumption) | assumption)
                  have q452 : x342_4 < (t433.length : Int) := of_decide_eq_true (by first | (with_reducible assumption) | assumption)
                  obtain ⟨ad452, e452, hx452_0⟩ := Kd.at_int (Kd.R_reads' HO_340.out).2.2 x342_4 p452 q452
                  cases e452
                  replace p452 := eq_true p452
                  replace q452 := eq_true q452
                  have p453 : 0 ≤ ((ji97) : Int) := of_decide_eq_true (by first | (with_reducible assumption) | assumption)
                  have q453 : (ji97) < (t440.length : Int) := of_decide_eq_true (by first | (with_reducible assumption) | assumption)
                  obtain ⟨ad453, e453, hx453_0⟩ := Kd.at_int (Kd.R_reads' HO_41.out).2.2 (ji97) p453 q453
                  cases e453
                  replace p453 := eq_true p453
                  replace q453 := eq_true q453
                  have p454 : 0 ≤ ((ji102) : Int) := of_decide_eq_true (by first | (with_reducible assumption) | assumption)
                  have q454 : (ji102) < (t433.length : Int) := of_decide_eq_true (by first | (with_reducible assumption) | assumption)
                  obtain ⟨ad454, e454, hx454_0⟩ := Kd.at_int (Kd.R_reads' HO_37.out).2.2 (ji102) p454 q454
                  obtain rfl : ad452 = ad454 := (by injection e454)
                  replace p454 := eq_true p454
                  replace q454 := eq_true q454
                  as_aux_lemma =>
                  go_wp2
                  first | go_roundg k4 | (try subst hji66; try subst hji97; try subst hji102; go_roundg k4)
                  case measure => have := HJ9.out; have := HK2.out; have := HK3.out; have := HK4.out; omega
                  case rel => exact ⟨(wrap64 (x342_4 + 1)), (by first | rfl | (simp; done) | (simp [*]; done)), H', ⟨by have := HJ9.out; have := HK2.out; have := HK3.out; have := HK4.out; omega⟩, ⟨by (with_reducible repeat (first | apply Kd.R_alloc | apply Kd.R_drewN | apply Kd.R_drew)); exact HO_37.out⟩, ⟨by (with_reducible repeat (first | apply Kd.R_alloc | apply Kd.R_drewN | apply Kd.R_drew)); exact HO_41.out⟩, ⟨by (with_reducible repeat (first | apply Kd.R_alloc | apply Kd.R_drewN | apply Kd.R_drew)); exact HO_340.out⟩, ⟨by repeat (first | (with_reducible first | exact HB.out | apply below_alloc | apply pw_below_drewN | apply below_drew1) | exact HB.out)⟩⟩
                 ·as_aux_lemma =>
                  rw [if_neg c100] at H
                  have c100b0 : ((rd t440 (ji97)) == t438) = false := beq_eq_false_iff_ne.mpr c100
                  have c100b1 : ((rd t440 (ji97)) != t438) = true := bne_iff_ne.mpr c100
                  have c106 : ¬ ((t433.length : Int) = 0) := fun c106 => by
                   rw [if_pos c106] at H
                   exact absurd H (by simp)
                  rw [if_neg c106] at H
                  have c106b0 : ((t433.length : Int) == 0) = false := beq_eq_false_iff_ne.mpr c106
                  have c106b1 : ((t433.length : Int) != 0) = true := bne_iff_ne.mpr c106
                  have c106b2 : ¬ (t433 = []) := fun h_ => c106 (by rw [h_]; rfl)
                  obtain ⟨ji107, hji107⟩ : ∃ j_ : Int, (Int.tmod (wrap64 ((wrap64 ((wrap64 ((t433.length : Int) - 2)) - x342_4)) + (wrap64 (3 * (t433.length : Int))))) (t433.length : Int)) = j_ := ⟨_, rfl⟩
                  replace H : (if 0 ≤ (ji107) then (if (ji107) < (t433.length : Int) then (if (rd t433 (ji107)) = (rd t433 x342_4) then (laws_FnStepsAroundOfAll.l2 k4 l1 a2 l3 a4 l5 a6 l7 l8 t433 t438 t440 t433 (t433.length : Int) (wrap64 (x342_4 + 1))) else (none)) else (none)) else (none)) = some r := by first | (rw [hji107] at H; exact H) | (simp only [hji107] at H ⊢; exact H)
                  have c108 : 0 ≤ (ji107) := Classical.byContradiction fun c108 => by
                   rw [if_neg c108] at H
                   exact absurd H (by simp)
                  rw [if_pos c108] at H
                  have c108b0 : decide (0 ≤ (ji107)) = true := decide_eq_true c108
                  clear c108
                  have c109 : (ji107) < (t433.length : Int) := Classical.byContradiction fun c109 => by
                   rw [if_neg c109] at H
                   exact absurd H (by simp)
                  rw [if_pos c109] at H
                  have c109b0 : decide ((ji107) < (t433.length : Int)) = true := decide_eq_true c109
                  clear c109
                  have c110 : (rd t433 (ji107)) = (rd t433 x342_4) := Classical.byContradiction fun c110 => by
                   rw [if_neg c110] at H
                   exact absurd H (by simp)
                  rw [if_pos c110] at H
                  have c110b0 : ((rd t433 (ji107)) == (rd t433 x342_4)) = true := beq_iff_eq.mpr c110
                  have c110b1 : ((rd t433 (ji107)) != (rd t433 x342_4)) = false := bne_eq_false_iff_eq.mpr c110
                  clear c110
                  have H' := Aside0.mk H
                  clear H
                  have p452 : 0 ≤ (x342_4 : Int) := of_decide_eq_true (by first | (with_reducible assumption) | assumption)
                  have q452 : x342_4 < (t433.length : Int) := of_decide_eq_true (by first | (with_reducible assumption) | assumption)
                  obtain ⟨ad452, e452, hx452_0⟩ := Kd.at_int (Kd.R_reads' HO_340.out).2.2 x342_4 p452 q452
                  cases e452
                  replace p452 := eq_true p452
                  replace q452 := eq_true q452
                  have p453 : 0 ≤ ((ji97) : Int) := of_decide_eq_true (by first | (with_reducible assumption) | assumption)
                  have q453 : (ji97) < (t440.length : Int) := of_decide_eq_true (by first | (with_reducible assumption) | assumption)
                  obtain ⟨ad453, e453, hx453_0⟩ := Kd.at_int (Kd.R_reads' HO_41.out).2.2 (ji97) p453 q453
                  cases e453
                  replace p453 := eq_true p453
                  replace q453 := eq_true q453
                  have p455 : 0 ≤ ((ji107) : Int) := of_decide_eq_true (by first | (with_reducible assumption) | assumption)
                  have q455 : (ji107) < (t433.length : Int) := of_decide_eq_true (by first | (with_reducible assumption) | assumption)
                  obtain ⟨ad455, e455, hx455_0⟩ := Kd.at_int (Kd.R_reads' HO_37.out).2.2 (ji107) p455 q455
                  obtain rfl : ad452 = ad455 := (by injection e455)
                  replace p455 := eq_true p455
                  replace q455 := eq_true q455
                  as_aux_lemma =>
                  go_wp2
                  first | go_roundg k4 | (try subst hji66; try subst hji97; try subst hji102; try subst hji107; go_roundg k4)
                  case measure => have := HJ9.out; have := HK2.out; have := HK3.out; have := HK4.out; omega
                  case rel => exact ⟨(wrap64 (x342_4 + 1)), (by first | rfl | (simp; done) | (simp [*]; done)), H', ⟨by have := HJ9.out; have := HK2.out; have := HK3.out; have := HK4.out; omega⟩, ⟨by (with_reducible repeat (first | apply Kd.R_alloc | apply Kd.R_drewN | apply Kd.R_drew)); exact HO_37.out⟩, ⟨by (with_reducible repeat (first | apply Kd.R_alloc | apply Kd.R_drewN | apply Kd.R_drew)); exact HO_41.out⟩, ⟨by (with_reducible repeat (first | apply Kd.R_alloc | apply Kd.R_drewN | apply Kd.R_drew)); exact HO_340.out⟩, ⟨by repeat (first | (with_reducible first | exact HB.out | apply below_alloc | apply pw_below_drewN | apply below_drew1) | exact HB.out)⟩⟩
                ·as_aux_lemma =>
                 rw [if_neg c94] at H
                 have c94b0 : decide (x342_4 < (t433.length : Int)) = false := decide_eq_false c94
                 clear c94
                 have H' := Aside0.mk H
                 clear H
                 as_aux_lemma =>
                 go_wp2
                 as_aux_lemma =>
                 go_meet
                 case rel => exact ⟨_, H', ⟨by have := HJ9.out; have := HK2.out; have := HK3.out; have := HK4.out; first | omega | exact Nat.le_refl _⟩, ⟨by repeat (first | (with_reducible first | exact HB.out | apply below_alloc | apply pw_below_drewN | apply below_drew1) | exact HB.out)⟩⟩
             ·replace c93 := Bool.eq_false_iff.mpr c93
              subst c93
              have H1 : (laws_FnStepsAroundOfAll.j4 k3 l1 a2 l3 a4 l5 a6 l7 l8) = some r := by rw [if_neg (show ¬ (false = true) by decide)] at H; exact H
              clear H
              have H := H1
              clear H1
              have H' := Aside0.mk H
              clear H
              as_aux_lemma =>
              go_wp2
              as_aux_lemma =>
              go_meet
              case rel => exact ⟨_, H', ⟨by have := HJ9.out; have := HK2.out; have := HK3.out; first | omega | exact Nat.le_refl _⟩, ⟨by repeat (first | (with_reducible first | exact HB.out | apply below_alloc | apply pw_below_drewN | apply below_drew1) | exact HB.out)⟩⟩
      ·replace c52 := Bool.eq_false_iff.mpr c52
       subst c52
       have H1 : (laws_FnStepsAroundOfAll.j4 kj9 l1 a2 l3 a4 l5 a6 l7 l8) = some r := by rw [if_neg (show ¬ (false = true) by decide)] at H; exact H
       clear H
       have H := H1
       clear H1
       have H' := Aside0.mk H
       clear H
       as_aux_lemma =>
       go_wp2
       as_aux_lemma =>
       go_meet
       case rel => exact ⟨_, H', ⟨by have := HJ9.out; first | omega | exact Nat.le_refl _⟩, ⟨by repeat (first | (with_reducible first | exact HB.out | apply below_alloc | apply pw_below_drewN | apply below_drew1) | exact HB.out)⟩⟩
     case rest =>
      as_aux_lemma =>
      clear HC40
      try clear c1
      try clear c2
      try clear p2
      try clear c3
      try clear p4
      try clear q4
      try clear hx4
      try clear c5
      try clear c6
      try clear p6
      try clear c7
      try clear c8
      try clear c9
      try clear c10
      try clear c11
      try clear c11b0
      try clear c11b1
      try clear c12
      try clear c12b0
      try clear c12b1
      try clear c13
      try clear c13b0
      try clear c13b1
      try clear c14
      try clear c14b0
      try clear c14b1
      try clear c15
      try clear c15b0
      try clear c15b1
      try clear c16
      try clear c17
      try clear c22
      try clear c26
      try clear c26b0
      try clear c26b1
      try clear c26b2
      try clear c27
      try clear c27b0
      try clear c27b1
      try clear c28
      try clear c28b0
      try clear c28b1
      try clear c29
      try clear c29b0
      try clear c29b1
      try clear c29b2
      try clear c30
      try clear c31
      try clear c32
      try clear c32b0
      try clear c32b1
      try clear c32b2
      try clear c33
      try clear c33b0
      try clear c33b1
      try clear c34
      try clear c34b0
      try clear c34b1
      try clear c34b2
      try clear c35
      try clear c35b0
      try clear c35b1
      try clear c35b2
      try clear c36
      try clear c36b0
      try clear c36b1
      try clear c36b2
      try clear c37
      try clear c37b0
      try clear c37b1
      try clear c37b2
      try clear c38
      try clear c38b0
      try clear c38b1
      try clear c38b2
      try clear c39
      try clear c39b0
      try clear c39b1
      try clear c39b2
      try clear p44
      try clear q44
      try clear hx44
      try clear p45
      try clear q45
      try clear hx45
      try clear c52
      try clear c57
      try clear c57b0
      try clear c58
      try clear c58b0
      try clear c59
      try clear c59b0
      try clear c61
      try clear c62
      try clear c62b0
      try clear c64
      try clear p64
      try clear c65
      try clear c65b0
      try clear c67
      try clear c67b0
      try clear c68
      try clear c68b0
      try clear c69
      try clear c69b0
      try clear c74
      try clear c75
      try clear c75b0
      try clear c75b1
      try clear c76
      try clear c76b0
      try clear c76b1
      try clear c77
      try clear c78
      try clear c78b0
      try clear c78b1
      try clear c79
      try clear c79b0
      try clear c79b1
      try clear c81
      try clear c82
      try clear c82b0
      try clear c82b1
      try clear c83
      try clear c83b0
      try clear c83b1
      try clear c86
      try clear c86b0
      try clear c87
      try clear c87b0
      try clear c88
      try clear c88b0
      try clear c89
      try clear c89b0
      try clear c90
      try clear c90b0
      try clear c90b1
      try clear c91
      try clear c91b0
      try clear c92
      try clear c92b0
      try clear c93
      try clear c94
      try clear c94b0
      try clear c95
      try clear c95b0
      try clear c96
      try clear c96b0
      try clear c98
      try clear c98b0
      try clear c99
      try clear c99b0
      try clear c100
      try clear c100b0
      try clear c100b1
      try clear c101
      try clear c101b0
      try clear c101b1
      try clear c101b2
      try clear c103
      try clear c103b0
      try clear c104
      try clear c104b0
      try clear c105
      try clear c105b0
      try clear c105b1
      try clear c106
      try clear c106b0
      try clear c106b1
      try clear c106b2
      try clear c108
      try clear c108b0
      try clear c109
      try clear c109b0
      try clear c110
      try clear c110b0
      try clear c110b1
      try clear hx444_0
      try clear hx448_0
      try clear hx450_0
      try clear hx451_0
      try clear hx452_0
      try clear hx453_0
      try clear hx454_0
      try clear hx455_0
      try clear p2
      try clear p4
      try clear p44
      try clear p444
      try clear p448
      try clear p45
      try clear p450
      try clear p451
      try clear p452
      try clear p453
      try clear p454
      try clear p455
      try clear p6
      try clear p64
      try clear q4
      try clear q44
      try clear q444
      try clear q448
      try clear q45
      try clear q450
      try clear q451
      try clear q452
      try clear q453
      try clear q454
      try clear q455
      obtain ⟨kq, HA, HJ39, HB⟩ := hcut
      cases kq with
      | zero => exact absurd HA.out (by simp [laws_FnStepsAroundOfAll.j4])
      | succ kj39 =>
       have H := HA.out
       clear HA
       simp only [laws_FnStepsAroundOfAll.j4] at H
       replace H := Option.bind_eq_some_iff.mp H
       obtain ⟨⟨t456, t457⟩, A1110, H⟩ := H
       replace H : ((spec_RollWheel.f kj39 l1 a2).bind fun bt460 => (if (t457 != bt460.2) = true then (none) else ((laws_gSame.f kj39 t456 bt460.1).bind fun t464 => (if t464 = true then (if t457 = true then ((impl_CountSpokes.f kj39 l1).bind fun bt465 => ((some (([] : List (S45)) : List (S45))).bind fun y467 => (if y467.length + l1.length < 8796093022208 then ((some (y467 ++ l1 : List (S45))).bind fun y470 => (if y470.length < 8796093022208 then ((impl_SpokesOf.f kj39 (y470 ++ [(⟨a2, 0⟩ : S45)])).bind fun bt476 => (if bt465.2 = true then (if (t456.length : Int) = (wrap64 (bt465.1 * (wrap64 (a2 - 1)))) then (if bt476.2 = true then ((laws_gSame.f kj39 bt476.1 t456).bind fun t480 => (if t480 = true then (laws_FnStepsAroundOfAll.j5 kj39 l3 a4 l5 a6 l7 l8) else (none))) else (none)) else (none)) else (none))) else (none))) else (none)))) else (laws_FnStepsAroundOfAll.j5 kj39 l3 a4 l5 a6 l7 l8)) else (none))))) = some r := H
       have A111 := Aside0.mk A1110
       clear A1110
       replace H := Option.bind_eq_some_iff.mp H
       obtain ⟨⟨t460, t461⟩, A1120, H⟩ := H
       replace H : (if (t457 != t461) = true then (none) else ((laws_gSame.f kj39 t456 t460).bind fun t464 => (if t464 = true then (if t457 = true then ((impl_CountSpokes.f kj39 l1).bind fun bt465 => ((some (([] : List (S45)) : List (S45))).bind fun y467 => (if y467.length + l1.length < 8796093022208 then ((some (y467 ++ l1 : List (S45))).bind fun y470 => (if y470.length < 8796093022208 then ((impl_SpokesOf.f kj39 (y470 ++ [(⟨a2, 0⟩ : S45)])).bind fun bt476 => (if bt465.2 = true then (if (t456.length : Int) = (wrap64 (bt465.1 * (wrap64 (a2 - 1)))) then (if bt476.2 = true then ((laws_gSame.f kj39 bt476.1 t456).bind fun t480 => (if t480 = true then (laws_FnStepsAroundOfAll.j5 kj39 l3 a4 l5 a6 l7 l8) else (none))) else (none)) else (none)) else (none))) else (none))) else (none)))) else (laws_FnStepsAroundOfAll.j5 kj39 l3 a4 l5 a6 l7 l8)) else (none)))) = some r := H
       have A112 := Aside0.mk A1120
       clear A1120
       have c113 : ¬ ((t457 != t461) = true) := fun c113 => by
        rw [if_pos c113] at H
        exact absurd H (by simp)
       rw [if_neg c113] at H
       have c113b0 : (t457 != t461) = false := by simpa using c113
       (try (have c113b1 : decide (t457 = t461) = true := by simpa using c113))
       (try (have c113b2 : (t457 == t461) = true := by simpa using c113))
       clear c113
       replace H := Option.bind_eq_some_iff.mp H
       obtain ⟨t464, A1140, H⟩ := H
       replace H : (if t464 = true then (if t457 = true then ((impl_CountSpokes.f kj39 l1).bind fun bt465 => ((some (([] : List (S45)) : List (S45))).bind fun y467 => (if y467.length + l1.length < 8796093022208 then ((some (y467 ++ l1 : List (S45))).bind fun y470 => (if y470.length < 8796093022208 then ((impl_SpokesOf.f kj39 (y470 ++ [(⟨a2, 0⟩ : S45)])).bind fun bt476 => (if bt465.2 = true then (if (t456.length : Int) = (wrap64 (bt465.1 * (wrap64 (a2 - 1)))) then (if bt476.2 = true then ((laws_gSame.f kj39 bt476.1 t456).bind fun t480 => (if t480 = true then (laws_FnStepsAroundOfAll.j5 kj39 l3 a4 l5 a6 l7 l8) else (none))) else (none)) else (none)) else (none))) else (none))) else (none)))) else (laws_FnStepsAroundOfAll.j5 kj39 l3 a4 l5 a6 l7 l8)) else (none)) = some r := H
       have A114 := Aside0.mk A1140
       clear A1140
       have c115 : t464 = true := Classical.byContradiction fun c115 => by
        replace c115 := Bool.eq_false_iff.mpr c115
        subst c115
        have H1 : (none) = some r := by rw [if_neg (show ¬ (false = true) by decide)] at H; exact H
        clear H
        have H := H1
        clear H1
        exact absurd H (by simp)
       subst c115
       have H1 : (if t457 = true then ((impl_CountSpokes.f kj39 l1).bind fun bt465 => ((some (([] : List (S45)) : List (S45))).bind fun y467 => (if y467.length + l1.length < 8796093022208 then ((some (y467 ++ l1 : List (S45))).bind fun y470 => (if y470.length < 8796093022208 then ((impl_SpokesOf.f kj39 (y470 ++ [(⟨a2, 0⟩ : S45)])).bind fun bt476 => (if bt465.2 = true then (if (t456.length : Int) = (wrap64 (bt465.1 * (wrap64 (a2 - 1)))) then (if bt476.2 = true then ((laws_gSame.f kj39 bt476.1 t456).bind fun t480 => (if t480 = true then (laws_FnStepsAroundOfAll.j5 kj39 l3 a4 l5 a6 l7 l8) else (none))) else (none)) else (none)) else (none))) else (none))) else (none)))) else (laws_FnStepsAroundOfAll.j5 kj39 l3 a4 l5 a6 l7 l8)) = some r := by rw [if_pos rfl] at H; exact H
       clear H
       have H := H1
       clear H1
       have HC116 := Aside0.mk H
       clear H
       as_aux_lemma =>
       go_upto_if 397 with (first | ((with_reducible refine gate_callee (f := 39) rfl ?_); refine goesL_ (some 379) rfl rfl Try.func39 (by kernel_rfl) rfl #[.slice A1 l1.length c1, .int .i64 a2] rfl (by (try simp only [List.map_toArray, List.map_cons, List.map_nil]); first | done | rfl | (simp only [List.length_drop, List.length_take]; rfl)) ?_; (with_reducible refine (impl_RollWheel.calls kj39 _ _ l1 a2 t456 t457 _ ?side1 ?side2 A111.out).mono ?_); (case side1 => repeat (first | exact (Kd.C_below HR1.out HB.out) | (with_reducible refine Kd.C_alloc ?_ _) | (with_reducible refine Kd.C_drewN ?_ _) | (with_reducible refine Kd.C_drew ?_))); (case side2 => exact HC1.out); rintro e w117 ⟨v458, rfl, ho0, hb⟩; refine ⟨_, rfl, ?_⟩; have n0_ := Aside0.mk (Kd.R_lower ho0 (below_size (by repeat (first | (with_reducible first | exact HB.out | apply below_alloc | apply pw_below_drewN | apply below_drew1) | exact HB.out)))); have n1_ := Aside0.mk (below_step (by repeat (first | (with_reducible first | exact HB.out | apply below_alloc | apply pw_below_drewN | apply below_drew1) | exact HB.out)) hb); clear HB; have HO459 := n0_; have HB := n1_; clear n0_ n1_; (try clear hb); (try clear hb2); (try clear hk); (try clear hi); (try clear ho0)) | ((with_reducible refine gate_callee (f := 40) rfl ?_); refine goesL_ (some 385) rfl rfl Try.func40 (by kernel_rfl) rfl #[.slice A1 l1.length c1, .int .i64 a2] rfl (by (try simp only [List.map_toArray, List.map_cons, List.map_nil]); first | done | rfl | (simp only [List.length_drop, List.length_take]; rfl)) ?_; (with_reducible refine (spec_RollWheel.calls kj39 _ _ l1 a2 t460 t461 _ ?side1 ?side2 A112.out).mono ?_); (case side1 => repeat (first | exact (Kd.C_below HR1.out HB.out) | (with_reducible refine Kd.C_alloc ?_ _) | (with_reducible refine Kd.C_drewN ?_ _) | (with_reducible refine Kd.C_drew ?_))); (case side2 => exact HC1.out); rintro e w118 ⟨v462, rfl, ho0, hb⟩; refine ⟨_, rfl, ?_⟩; have n0_ := Aside0.mk (Kd.R_elder' (by (with_reducible repeat (first | apply Kd.R_alloc | apply Kd.R_drewN | apply Kd.R_drew)); exact HO459.out) (Kd.R_base ho0) hb); have n1_ := Aside0.mk (Kd.R_lower (Kd.R_new' ho0 (Kd.R_lt (by (with_reducible repeat (first | apply Kd.R_alloc | apply Kd.R_drewN | apply Kd.R_drew)); exact HO459.out))) (below_size (by repeat (first | (with_reducible first | exact HB.out | apply below_alloc | apply pw_below_drewN | apply below_drew1) | exact HB.out)))); have n2_ := Aside0.mk (below_step (by repeat (first | (with_reducible first | exact HB.out | apply below_alloc | apply pw_below_drewN | apply below_drew1) | exact HB.out)) hb); clear HO459; clear HB; have HO459 := n0_; have HO463 := n1_; have HB := n2_; clear n0_ n1_ n2_; (try clear hb); (try clear hb2); (try clear hk); (try clear hi); (try clear ho0); obtain ⟨Ao119, co119, eo119⟩ := Kd.R_slice HO459.out; subst eo119; obtain ⟨Ao120, co120, eo120⟩ := Kd.R_slice HO463.out; subst eo120))
       as_aux_lemma =>
       go_upto_if 397 with (first | (go_at_call 21; (with_reducible refine (laws_gSame.calls kj39 _ _ t456 _ _ t460 true _ ?side1 ?side2 ?side3 ?side4 A114.out).mono ?_); (case side1 => repeat (first | exact (Kd.R_reads' HO459.out).2.2 | (with_reducible refine Kd.C_alloc ?_ _) | (with_reducible refine Kd.C_drewN ?_ _) | (with_reducible refine Kd.C_drew ?_))); (case side2 => exact (Kd.R_reads' HO459.out).2.1); (case side3 => repeat (first | exact (Kd.R_reads' HO463.out).2.2 | (with_reducible refine Kd.C_alloc ?_ _) | (with_reducible refine Kd.C_drewN ?_ _) | (with_reducible refine Kd.C_drew ?_))); (case side4 => exact (Kd.R_reads' HO463.out).2.1); rintro e w' ⟨rfl, ⟨nd, rfl⟩⟩))
       (try simp only [Act.put, List.setIfInBounds_toArray, List.set_cons_zero, List.set_cons_succ])
       go_cut [] from 9999 to 9999 (fun wc => ∃ (kq : Nat), Aside0 (laws_FnStepsAroundOfAll.j5 kq l3 a4 l5 a6 l7 l8 = some r) ∧ Aside0 (kq ≤ kj39) ∧ Aside0 (Below w.heap.size w wc))
       case first =>
        as_aux_lemma =>
        have H := HC116.out
        clear HC116
        by_cases c121 : t457 = true
        ·subst c121
         have H1 : ((impl_CountSpokes.f kj39 l1).bind fun bt465 => ((some (([] : List (S45)) : List (S45))).bind fun y467 => (if y467.length + l1.length < 8796093022208 then ((some (y467 ++ l1 : List (S45))).bind fun y470 => (if y470.length < 8796093022208 then ((impl_SpokesOf.f kj39 (y470 ++ [(⟨a2, 0⟩ : S45)])).bind fun bt476 => (if bt465.2 = true then (if (t456.length : Int) = (wrap64 (bt465.1 * (wrap64 (a2 - 1)))) then (if bt476.2 = true then ((laws_gSame.f kj39 bt476.1 t456).bind fun t480 => (if t480 = true then (laws_FnStepsAroundOfAll.j5 kj39 l3 a4 l5 a6 l7 l8) else (none))) else (none)) else (none)) else (none))) else (none))) else (none)))) = some r := by rw [if_pos rfl] at H; exact H
         clear H
         have H := H1
         clear H1
         replace H := Option.bind_eq_some_iff.mp H
         obtain ⟨⟨t465, t466⟩, A1220, H⟩ := H
         replace H : ((some (([] : List (S45)) : List (S45))).bind fun y467 => (if y467.length + l1.length < 8796093022208 then ((some (y467 ++ l1 : List (S45))).bind fun y470 => (if y470.length < 8796093022208 then ((impl_SpokesOf.f kj39 (y470 ++ [(⟨a2, 0⟩ : S45)])).bind fun bt476 => (if t466 = true then (if (t456.length : Int) = (wrap64 (t465 * (wrap64 (a2 - 1)))) then (if bt476.2 = true then ((laws_gSame.f kj39 bt476.1 t456).bind fun t480 => (if t480 = true then (laws_FnStepsAroundOfAll.j5 kj39 l3 a4 l5 a6 l7 l8) else (none))) else (none)) else (none)) else (none))) else (none))) else (none))) = some r := H
         have A122 := Aside0.mk A1220
         clear A1220
         obtain ⟨y467, hy467⟩ : ∃ y_ : List (S45), y_ = (([] : List (S45))) := ⟨_, rfl⟩
         replace H : (if y467.length + l1.length < 8796093022208 then ((some (y467 ++ l1 : List (S45))).bind fun y470 => (if y470.length < 8796093022208 then ((impl_SpokesOf.f kj39 (y470 ++ [(⟨a2, 0⟩ : S45)])).bind fun bt476 => (if t466 = true then (if (t456.length : Int) = (wrap64 (t465 * (wrap64 (a2 - 1)))) then (if bt476.2 = true then ((laws_gSame.f kj39 bt476.1 t456).bind fun t480 => (if t480 = true then (laws_FnStepsAroundOfAll.j5 kj39 l3 a4 l5 a6 l7 l8) else (none))) else (none)) else (none)) else (none))) else (none))) else (none)) = some r := by first | (rw [hy467]; with_reducible exact H) | (have H2_ := (Option.bind_some _ _).symm.trans H; rw [hy467]; with_reducible exact H2_) | (have H2_ := (Option.bind_some _ _).symm.trans H; with_reducible exact H2_) | with_reducible exact H | (rw [hy467]; exact H) | exact H
         have Ny467 := Aside0.mk hy467
         clear hy467
         have c123 : y467.length + l1.length < 8796093022208 := Classical.byContradiction fun c123 => by
          rw [if_neg c123] at H
          exact absurd H (by simp)
         rw [if_pos c123] at H
         have LMc123 := Aside0.mk c123
         clear c123
         obtain ⟨y470, hy470⟩ : ∃ y_ : List (S45), y_ = (y467 ++ l1) := ⟨_, rfl⟩
         replace H : (if y470.length < 8796093022208 then ((impl_SpokesOf.f kj39 (y470 ++ [(⟨a2, 0⟩ : S45)])).bind fun bt476 => (if t466 = true then (if (t456.length : Int) = (wrap64 (t465 * (wrap64 (a2 - 1)))) then (if bt476.2 = true then ((laws_gSame.f kj39 bt476.1 t456).bind fun t480 => (if t480 = true then (laws_FnStepsAroundOfAll.j5 kj39 l3 a4 l5 a6 l7 l8) else (none))) else (none)) else (none)) else (none))) else (none)) = some r := by first | (rw [hy470]; with_reducible exact H) | (have H2_ := (Option.bind_some _ _).symm.trans H; rw [hy470]; with_reducible exact H2_) | (have H2_ := (Option.bind_some _ _).symm.trans H; with_reducible exact H2_) | with_reducible exact H | (rw [hy470]; exact H) | exact H
         have Ny470 := Aside0.mk hy470
         clear hy470
         have c124 : y470.length < 8796093022208 := Classical.byContradiction fun c124 => by
          rw [if_neg c124] at H
          exact absurd H (by simp)
         rw [if_pos c124] at H
         have LMc124 := Aside0.mk c124
         clear c124
         obtain ⟨y473, hy473⟩ : ∃ y_ : List (S45), y_ = (y470 ++ [(⟨a2, 0⟩ : S45)]) := ⟨_, rfl⟩
         replace H : ((impl_SpokesOf.f kj39 y473).bind fun bt476 => (if t466 = true then (if (t456.length : Int) = (wrap64 (t465 * (wrap64 (a2 - 1)))) then (if bt476.2 = true then ((laws_gSame.f kj39 bt476.1 t456).bind fun t480 => (if t480 = true then (laws_FnStepsAroundOfAll.j5 kj39 l3 a4 l5 a6 l7 l8) else (none))) else (none)) else (none)) else (none))) = some r := by first | (rw [hy473]; with_reducible exact H) | (have H2_ := (Option.bind_some _ _).symm.trans H; rw [hy473]; with_reducible exact H2_) | (have H2_ := (Option.bind_some _ _).symm.trans H; with_reducible exact H2_) | with_reducible exact H | (rw [hy473]; exact H) | exact H
         have Ny473 := Aside0.mk hy473
         clear hy473
         replace H := Option.bind_eq_some_iff.mp H
         obtain ⟨⟨t476, t477⟩, A1250, H⟩ := H
         replace H : (if t466 = true then (if (t456.length : Int) = (wrap64 (t465 * (wrap64 (a2 - 1)))) then (if t477 = true then ((laws_gSame.f kj39 t476 t456).bind fun t480 => (if t480 = true then (laws_FnStepsAroundOfAll.j5 kj39 l3 a4 l5 a6 l7 l8) else (none))) else (none)) else (none)) else (none)) = some r := H
         have A125 := Aside0.mk A1250
         clear A1250
         have c126 : t466 = true := Classical.byContradiction fun c126 => by
          replace c126 := Bool.eq_false_iff.mpr c126
          subst c126
          have H1 : (none) = some r := by rw [if_neg (show ¬ (false = true) by decide)] at H; exact H
          clear H
          have H := H1
          clear H1
          exact absurd H (by simp)
         subst c126
         have H1 : (if (t456.length : Int) = (wrap64 (t465 * (wrap64 (a2 - 1)))) then (if t477 = true then ((laws_gSame.f kj39 t476 t456).bind fun t480 => (if t480 = true then (laws_FnStepsAroundOfAll.j5 kj39 l3 a4 l5 a6 l7 l8) else (none))) else (none)) else (none)) = some r := by rw [if_pos rfl] at H; exact H
         clear H
         have H := H1
         clear H1
         have c127 : (t456.length : Int) = (wrap64 (t465 * (wrap64 (a2 - 1)))) := Classical.byContradiction fun c127 => by
          rw [if_neg c127] at H
          exact absurd H (by simp)
         rw [if_pos c127] at H
         have c127b0 : ((t456.length : Int) == (wrap64 (t465 * (wrap64 (a2 - 1))))) = true := beq_iff_eq.mpr c127
         have c127b1 : ((t456.length : Int) != (wrap64 (t465 * (wrap64 (a2 - 1))))) = false := bne_eq_false_iff_eq.mpr c127
         clear c127
         (first | rw [c127b0] | (simp only [i64_w, i32_w]; rw [c127b0]) | skip)
         have c128 : t477 = true := Classical.byContradiction fun c128 => by
          replace c128 := Bool.eq_false_iff.mpr c128
          subst c128
          have H1 : (none) = some r := by rw [if_neg (show ¬ (false = true) by decide)] at H; exact H
          clear H
          have H := H1
          clear H1
          exact absurd H (by simp)
         subst c128
         have H1 : ((laws_gSame.f kj39 t476 t456).bind fun t480 => (if t480 = true then (laws_FnStepsAroundOfAll.j5 kj39 l3 a4 l5 a6 l7 l8) else (none))) = some r := by rw [if_pos rfl] at H; exact H
         clear H
         have H := H1
         clear H1
         replace H := Option.bind_eq_some_iff.mp H
         obtain ⟨t480, A1290, H⟩ := H
         replace H : (if t480 = true then (laws_FnStepsAroundOfAll.j5 kj39 l3 a4 l5 a6 l7 l8) else (none)) = some r := H
         have A129 := Aside0.mk A1290
         clear A1290
         have c130 : t480 = true := Classical.byContradiction fun c130 => by
          replace c130 := Bool.eq_false_iff.mpr c130
          subst c130
          have H1 : (none) = some r := by rw [if_neg (show ¬ (false = true) by decide)] at H; exact H
          clear H
          have H := H1
          clear H1
          exact absurd H (by simp)
         subst c130
         have H1 : (laws_FnStepsAroundOfAll.j5 kj39 l3 a4 l5 a6 l7 l8) = some r := by rw [if_pos rfl] at H; exact H
         clear H
         have H := H1
         clear H1
         have H' := Aside0.mk H
         clear H
         as_aux_lemma =>
         go_wp2_with (first | ((with_reducible refine gate_callee (f := 19) rfl ?_); refine goesL_ (some 400) rfl rfl Try.func19 (by kernel_rfl) rfl #[.slice A1 l1.length c1] rfl (by (try simp only [List.map_toArray, List.map_cons, List.map_nil]); first | done | rfl | (simp only [List.length_drop, List.length_take]; rfl)) ?_; (with_reducible refine (impl_CountSpokes.calls kj39 _ _ l1 t465 true _ ?side1 ?side2 A122.out).mono ?_); (case side1 => repeat (first | exact (Kd.C_below HR1.out HB.out) | (with_reducible refine Kd.C_alloc ?_ _) | (with_reducible refine Kd.C_drewN ?_ _) | (with_reducible refine Kd.C_drew ?_))); (case side2 => exact HC1.out); rintro e w131 ⟨rfl, hb⟩; refine ⟨_, rfl, ?_⟩; have n0_ := Aside0.mk (Kd.R_below (by (with_reducible repeat (first | apply Kd.R_alloc | apply Kd.R_drewN | apply Kd.R_drew)); exact HO459.out) hb); have n1_ := Aside0.mk (Kd.R_below (by (with_reducible repeat (first | apply Kd.R_alloc | apply Kd.R_drewN | apply Kd.R_drew)); exact HO463.out) hb); have n2_ := Aside0.mk (below_step (by repeat (first | (with_reducible first | exact HB.out | apply below_alloc | apply pw_below_drewN | apply below_drew1) | exact HB.out)) hb); clear HO459; clear HO463; clear HB; have HO459 := n0_; have HO463 := n1_; have HB := n2_; clear n0_ n1_ n2_; (try clear hb); (try clear hb2); (try clear hk); (try clear hi)) | ((with_reducible refine gate_dst (N := 404) rfl ?_); (try (refine gate_guard (by rfl) ?_; dsimp only)); refine Kd.R_lit k45 _ 45 ?hg (N := 404) ?hd (xs := ([] : List (S45))) (inner := []) (ok := fun _ => True) (okp := fun _ => True) ?hr ?hp (fun _ hk => hk) trivial (Below.refl _ _) (Nat.le_refl _) (by simp) ?_; (case hd => rfl); (case hg => rfl); (case hr => first | (go_simp; done) | (go_simp; rfl)); (case hp => exact (Reps.none _ _)); intro v468 w132 ho133 hb hg_ hnew_; clear hg_ hnew_; (first | rw [← Ny467.out] at ho133 | (simp only [Int.reduceToNat] at ho133; rw [← Ny467.out] at ho133)); have n0_ := Aside0.mk (Kd.R_below (by (with_reducible repeat (first | apply Kd.R_alloc | apply Kd.R_drewN | apply Kd.R_drew)); exact HO459.out) hb); have n1_ := Aside0.mk (Kd.R_below (by (with_reducible repeat (first | apply Kd.R_alloc | apply Kd.R_drewN | apply Kd.R_drew)); exact HO463.out) hb); have n2_ := Aside0.mk (Kd.R_lower ho133 (below_size (by repeat (first | (with_reducible first | exact HB.out | apply below_alloc | apply pw_below_drewN | apply below_drew1) | exact HB.out)))); have n3_ := Aside0.mk (below_step (by repeat (first | (with_reducible first | exact HB.out | apply below_alloc | apply pw_below_drewN | apply below_drew1) | exact HB.out)) hb); clear HO459; clear HO463; clear HB; have HO459 := n0_; have HO463 := n1_; have HO469 := n2_; have HB := n3_; clear n0_ n1_ n2_ n3_; clear hb ho133) | ((with_reducible refine gate_builtin (b := .append) (xs := #[.tmp 404, .tmp 405]) rfl ?_); (try (refine gate_guard (by rfl) ?_; dsimp only)); at_builtin; refine Kd.R_append_rows k45 (w0 := w) w.heap.size rfl (.tmp 404) (.tmp 405) 22 45 (.agg #[(.int .i64 0), (.int .i64 0)]) 16 rfl Try.underlying22 info45 rfl (by decide) (by omega) v468 y467 l1 _ _ _ (fun _ => True) (fun _ => False) rfl rfl ?aO ?aR (fun _ _ h => h) (fun _ h => h.elim) ?aF ?aB ?aS ?aL ?_; (case aR => repeat (first | exact (Kd.C_below HR1.out HB.out) | (with_reducible refine Kd.C_alloc ?_ _) | (with_reducible refine Kd.C_drewN ?_ _) | (with_reducible refine Kd.C_drew ?_))); (case aB => exact (by repeat (first | (with_reducible first | exact HB.out | apply below_alloc | apply pw_below_drewN | apply below_drew1) | exact HB.out))); (case aF => exact (fun _ _ => trivial)); (case aO => exact (by (with_reducible repeat (first | apply Kd.R_alloc | apply Kd.R_drewN | apply Kd.R_drew)); exact HO469.out)); (case aS => exact (below_size (by repeat (first | (with_reducible first | exact HB.out | apply below_alloc | apply pw_below_drewN | apply below_drew1) | exact HB.out)))); (case aL => have := LMc123.out; omega); intro v471 w134 ho hb hg hat; rw [← Ny470.out] at ho; have n0_ := Aside0.mk (Kd.R_over' (by (with_reducible repeat (first | apply Kd.R_alloc | apply Kd.R_drewN | apply Kd.R_drew)); exact HO459.out) (Kd.R_typed (by (with_reducible repeat (first | apply Kd.R_alloc | apply Kd.R_drewN | apply Kd.R_drew)); exact HO469.out)) (by decide) hg); have n1_ := Aside0.mk (Kd.R_over' (by (with_reducible repeat (first | apply Kd.R_alloc | apply Kd.R_drewN | apply Kd.R_drew)); exact HO463.out) (Kd.R_typed (by (with_reducible repeat (first | apply Kd.R_alloc | apply Kd.R_drewN | apply Kd.R_drew)); exact HO469.out)) (by decide) hg); have n2_ := Aside0.mk (hb); have n3_ := Aside0.mk (ho); clear HO459; clear HO463; clear HB; clear HO469; have HO459 := n0_; have HO463 := n1_; have HB := n2_; have HO472 := n3_; clear n0_ n1_ n2_ n3_; clear ho hb hg hat) | ((with_reducible refine gate_builtin (b := .append) (xs := #[.tmp 406, .tmp 409]) rfl ?_); (try (refine gate_guard (by rfl) ?_; dsimp only)); at_builtin; refine Kd.R_append k45 (w0 := w) w.heap.size rfl (.tmp 406) (.tmp 409) 22 45 (.agg #[(.int .i64 0), (.int .i64 0)]) 16 rfl Try.underlying22 info45 rfl (by decide) (by omega) v471 y470 (⟨a2, 0⟩ : S45) [.int .i64 a2, .int .i64 0] (fun _ => True) (fun _ => False) rfl rfl ?aP (fun _ hk => hk.elim) ?aF ?aO ?aB ?aS ?aL ?_; (case aP => exact k45_mkM _ _ _ (⟨a2, 0⟩ : S45)); (case aB => exact (by repeat (first | (with_reducible first | exact HB.out | apply below_alloc | apply pw_below_drewN | apply below_drew1) | exact HB.out))); (case aF => exact (fun _ _ => trivial)); (case aO => exact (by (with_reducible repeat (first | apply Kd.R_alloc | apply Kd.R_drewN | apply Kd.R_drew)); exact HO472.out)); (case aS => exact (below_size (by repeat (first | (with_reducible first | exact HB.out | apply below_alloc | apply pw_below_drewN | apply below_drew1) | exact HB.out)))); (case aL => have := LMc124.out; omega); intro v474 w135 ho hb hg hat; rw [← Ny473.out] at ho; have n0_ := Aside0.mk (Kd.R_over' (by (with_reducible repeat (first | apply Kd.R_alloc | apply Kd.R_drewN | apply Kd.R_drew)); exact HO459.out) (Kd.R_typed (by (with_reducible repeat (first | apply Kd.R_alloc | apply Kd.R_drewN | apply Kd.R_drew)); exact HO472.out)) (by decide) hg); have n1_ := Aside0.mk (Kd.R_over' (by (with_reducible repeat (first | apply Kd.R_alloc | apply Kd.R_drewN | apply Kd.R_drew)); exact HO463.out) (Kd.R_typed (by (with_reducible repeat (first | apply Kd.R_alloc | apply Kd.R_drewN | apply Kd.R_drew)); exact HO472.out)) (by decide) hg); have n2_ := Aside0.mk (hb); have n3_ := Aside0.mk (ho); clear HO459; clear HO463; clear HB; clear HO472; have HO459 := n0_; have HO463 := n1_; have HB := n2_; have HO475 := n3_; clear n0_ n1_ n2_ n3_; clear ho hb hg hat; obtain ⟨Ao136, co136, eo136⟩ := Kd.R_slice HO475.out; subst eo136) | ((with_reducible refine gate_callee (f := 15) rfl ?_); refine goesL_ (some 411) rfl rfl Try.func15 (by kernel_rfl) rfl #[.slice Ao136 y473.length co136] rfl (by (try simp only [List.map_toArray, List.map_cons, List.map_nil]); first | done | rfl | (simp only [List.length_drop, List.length_take]; rfl)) ?_; (with_reducible refine (impl_SpokesOf.calls kj39 _ _ y473 t476 true _ ?side1 ?side2 A125.out).mono ?_); (case side1 => repeat (first | exact (Kd.R_reads' HO475.out).2.2 | (with_reducible refine Kd.C_alloc ?_ _) | (with_reducible refine Kd.C_drewN ?_ _) | (with_reducible refine Kd.C_drew ?_))); (case side2 => exact (Kd.R_reads' HO475.out).2.1); rintro e w137 ⟨v478, rfl, ho0, hb⟩; refine ⟨_, rfl, ?_⟩; have n0_ := Aside0.mk (Kd.R_elder' (by (with_reducible repeat (first | apply Kd.R_alloc | apply Kd.R_drewN | apply Kd.R_drew)); exact HO459.out) (Kd.R_base ho0) hb); have n1_ := Aside0.mk (Kd.R_elder' (by (with_reducible repeat (first | apply Kd.R_alloc | apply Kd.R_drewN | apply Kd.R_drew)); exact HO463.out) (Kd.R_base ho0) hb); have n2_ := Aside0.mk (Kd.R_below (by (with_reducible repeat (first | apply Kd.R_alloc | apply Kd.R_drewN | apply Kd.R_drew)); exact HO475.out) hb); have n3_ := Aside0.mk (Kd.R_lower (Kd.R_new' (Kd.R_new' ho0 (Kd.R_lt (by (with_reducible repeat (first | apply Kd.R_alloc | apply Kd.R_drewN | apply Kd.R_drew)); exact HO459.out))) (Kd.R_lt (by (with_reducible repeat (first | apply Kd.R_alloc | apply Kd.R_drewN | apply Kd.R_drew)); exact HO463.out))) (below_size (by repeat (first | (with_reducible first | exact HB.out | apply below_alloc | apply pw_below_drewN | apply below_drew1) | exact HB.out)))); have n4_ := Aside0.mk (below_step (by repeat (first | (with_reducible first | exact HB.out | apply below_alloc | apply pw_below_drewN | apply below_drew1) | exact HB.out)) hb); clear HO459; clear HO463; clear HO475; clear HB; have HO459 := n0_; have HO463 := n1_; have HO475 := n2_; have HO479 := n3_; have HB := n4_; clear n0_ n1_ n2_ n3_ n4_; (try clear hb); (try clear hb2); (try clear hk); (try clear hi); (try clear ho0); obtain ⟨Ao138, co138, eo138⟩ := Kd.R_slice HO479.out; subst eo138))
         as_aux_lemma =>
         go_wp2_with (first | (go_at_call 21; (with_reducible refine (laws_gSame.calls kj39 _ _ t476 _ _ t456 true _ ?side1 ?side2 ?side3 ?side4 A129.out).mono ?_); (case side1 => repeat (first | exact (Kd.R_reads' HO479.out).2.2 | (with_reducible refine Kd.C_alloc ?_ _) | (with_reducible refine Kd.C_drewN ?_ _) | (with_reducible refine Kd.C_drew ?_))); (case side2 => exact (Kd.R_reads' HO479.out).2.1); (case side3 => repeat (first | exact (Kd.R_reads' HO459.out).2.2 | (with_reducible refine Kd.C_alloc ?_ _) | (with_reducible refine Kd.C_drewN ?_ _) | (with_reducible refine Kd.C_drew ?_))); (case side4 => exact (Kd.R_reads' HO459.out).2.1); rintro e w' ⟨rfl, ⟨nd, rfl⟩⟩))
         as_aux_lemma =>
         go_meet
         case rel => exact ⟨_, H', ⟨by have := HJ9.out; have := HJ39.out; first | omega | exact Nat.le_refl _⟩, ⟨by repeat (first | (with_reducible first | exact HB.out | apply below_alloc | apply pw_below_drewN | apply below_drew1) | exact HB.out)⟩⟩
        ·replace c121 := Bool.eq_false_iff.mpr c121
         subst c121
         have H1 : (laws_FnStepsAroundOfAll.j5 kj39 l3 a4 l5 a6 l7 l8) = some r := by rw [if_neg (show ¬ (false = true) by decide)] at H; exact H
         clear H
         have H := H1
         clear H1
         have H' := Aside0.mk H
         clear H
         as_aux_lemma =>
         go_wp2
         as_aux_lemma =>
         go_meet
         case rel => exact ⟨_, H', ⟨by have := HJ9.out; have := HJ39.out; first | omega | exact Nat.le_refl _⟩, ⟨by repeat (first | (with_reducible first | exact HB.out | apply below_alloc | apply pw_below_drewN | apply below_drew1) | exact HB.out)⟩⟩
       case rest =>
        as_aux_lemma =>
        clear HC116
        try clear c1
        try clear c2
        try clear p2
        try clear c3
        try clear c4
        try clear p4
        try clear q4
        try clear hx4
        try clear c5
        try clear c6
        try clear p6
        try clear c7
        try clear c8
        try clear c9
        try clear c10
        try clear c11
        try clear c11b0
        try clear c11b1
        try clear c12
        try clear c12b0
        try clear c12b1
        try clear c13
        try clear c13b0
        try clear c13b1
        try clear c14
        try clear c14b0
        try clear c14b1
        try clear c15
        try clear c15b0
        try clear c15b1
        try clear c16
        try clear c17
        try clear c19
        try clear c22
        try clear c26
        try clear c26b0
        try clear c26b1
        try clear c26b2
        try clear c27
        try clear c27b0
        try clear c27b1
        try clear c28
        try clear c28b0
        try clear c28b1
        try clear c29
        try clear c29b0
        try clear c29b1
        try clear c29b2
        try clear c30
        try clear c31
        try clear c32
        try clear c32b0
        try clear c32b1
        try clear c32b2
        try clear c33
        try clear c33b0
        try clear c33b1
        try clear c34
        try clear c34b0
        try clear c34b1
        try clear c34b2
        try clear c35
        try clear c35b0
        try clear c35b1
        try clear c35b2
        try clear c36
        try clear c36b0
        try clear c36b1
        try clear c36b2
        try clear c37
        try clear c37b0
        try clear c37b1
        try clear c37b2
        try clear c38
        try clear c38b0
        try clear c38b1
        try clear c38b2
        try clear c39
        try clear c39b0
        try clear c39b1
        try clear c39b2
        try clear c40
        try clear p44
        try clear q44
        try clear hx44
        try clear p45
        try clear q45
        try clear hx45
        try clear c52
        try clear c57
        try clear c57b0
        try clear c58
        try clear c58b0
        try clear c59
        try clear c59b0
        try clear c61
        try clear c62
        try clear c62b0
        try clear c64
        try clear p64
        try clear c65
        try clear c65b0
        try clear c67
        try clear c67b0
        try clear c68
        try clear c68b0
        try clear c69
        try clear c69b0
        try clear c74
        try clear c75
        try clear c75b0
        try clear c75b1
        try clear c76
        try clear c76b0
        try clear c76b1
        try clear c77
        try clear c78
        try clear c78b0
        try clear c78b1
        try clear c79
        try clear c79b0
        try clear c79b1
        try clear c81
        try clear c82
        try clear c82b0
        try clear c82b1
        try clear c83
        try clear c83b0
        try clear c83b1
        try clear c86
        try clear c86b0
        try clear c87
        try clear c87b0
        try clear c88
        try clear c88b0
        try clear c89
        try clear c89b0
        try clear c90
        try clear c90b0
        try clear c90b1
        try clear c91
        try clear c91b0
        try clear c92
        try clear c92b0
        try clear c93
        try clear c94
        try clear c94b0
        try clear c95
        try clear c95b0
        try clear c96
        try clear c96b0
        try clear c98
        try clear c98b0
        try clear c99
        try clear c99b0
        try clear c100
        try clear c100b0
        try clear c100b1
        try clear c101
        try clear c101b0
        try clear c101b1
        try clear c101b2
        try clear c103
        try clear c103b0
        try clear c104
        try clear c104b0
        try clear c105
        try clear c105b0
        try clear c105b1
        try clear c106
        try clear c106b0
        try clear c106b1
        try clear c106b2
        try clear c108
        try clear c108b0
        try clear c109
        try clear c109b0
        try clear c110
        try clear c110b0
        try clear c110b1
        try clear c113
        try clear c113b0
        try clear c113b1
        try clear c113b2
        try clear c115
        try clear c121
        try clear c123
        try clear c124
        try clear c126
        try clear c127
        try clear c127b0
        try clear c127b1
        try clear c128
        try clear c130
        try clear hx444_0
        try clear hx448_0
        try clear hx450_0
        try clear hx451_0
        try clear hx452_0
        try clear hx453_0
        try clear hx454_0
        try clear hx455_0
        try clear p2
        try clear p4
        try clear p44
        try clear p444
        try clear p448
        try clear p45
        try clear p450
        try clear p451
        try clear p452
        try clear p453
        try clear p454
        try clear p455
        try clear p6
        try clear p64
        try clear q4
        try clear q44
        try clear q444
        try clear q448
        try clear q45
        try clear q450
        try clear q451
        try clear q452
        try clear q453
        try clear q454
        try clear q455
        obtain ⟨kq, HA, HJ115, HB⟩ := hcut
        cases kq with
        | zero => exact absurd HA.out (by simp [laws_FnStepsAroundOfAll.j5])
        | succ kj115 =>
         have H := HA.out
         clear HA
         simp only [laws_FnStepsAroundOfAll.j5] at H
         replace H := Option.bind_eq_some_iff.mp H
         obtain ⟨⟨t481, t482⟩, A1390, H⟩ := H
         replace H : ((spec_TimesTogether.f kj115 l3 a4).bind fun bt483 => ((impl_CountStep.f kj115 l5 a6).bind fun bt485 => ((spec_CountStep.f kj115 l5 a6).bind fun bt487 => ((impl_FirstRun.f kj115 l7 l8).bind fun bt489 => ((spec_FirstRun.f kj115 l7 l8).bind fun bt491 => (if (t482 != bt483.2) = true then (none) else (if t481 = bt483.1 then (if (bt485.2 != bt487.2) = true then (none) else (if bt485.1 = bt487.1 then (if (bt489.2 != bt491.2) = true then (none) else (if bt489.1 = bt491.1 then (if t482 = true then ((impl_CountStep.f kj115 l3 a4).bind fun bt493 => (if bt493.2 = true then (if t481 < bt493.1 then (none) else (laws_FnStepsAroundOfAll.j6 kj115 l7 l8 bt489.1 bt489.2)) else (none))) else (laws_FnStepsAroundOfAll.j6 kj115 l7 l8 bt489.1 bt489.2)) else (none))) else (none))) else (none)))))))) = some r := H
         have A139 := Aside0.mk A1390
         clear A1390
         replace H := Option.bind_eq_some_iff.mp H
         obtain ⟨⟨t483, t484⟩, A1400, H⟩ := H
         replace H : ((impl_CountStep.f kj115 l5 a6).bind fun bt485 => ((spec_CountStep.f kj115 l5 a6).bind fun bt487 => ((impl_FirstRun.f kj115 l7 l8).bind fun bt489 => ((spec_FirstRun.f kj115 l7 l8).bind fun bt491 => (if (t482 != t484) = true then (none) else (if t481 = t483 then (if (bt485.2 != bt487.2) = true then (none) else (if bt485.1 = bt487.1 then (if (bt489.2 != bt491.2) = true then (none) else (if bt489.1 = bt491.1 then (if t482 = true then ((impl_CountStep.f kj115 l3 a4).bind fun bt493 => (if bt493.2 = true then (if t481 < bt493.1 then (none) else (laws_FnStepsAroundOfAll.j6 kj115 l7 l8 bt489.1 bt489.2)) else (none))) else (laws_FnStepsAroundOfAll.j6 kj115 l7 l8 bt489.1 bt489.2)) else (none))) else (none))) else (none))))))) = some r := H
         have A140 := Aside0.mk A1400
         clear A1400
         replace H := Option.bind_eq_some_iff.mp H
         obtain ⟨⟨t485, t486⟩, A1410, H⟩ := H
         replace H : ((spec_CountStep.f kj115 l5 a6).bind fun bt487 => ((impl_FirstRun.f kj115 l7 l8).bind fun bt489 => ((spec_FirstRun.f kj115 l7 l8).bind fun bt491 => (if (t482 != t484) = true then (none) else (if t481 = t483 then (if (t486 != bt487.2) = true then (none) else (if t485 = bt487.1 then (if (bt489.2 != bt491.2) = true then (none) else (if bt489.1 = bt491.1 then (if t482 = true then ((impl_CountStep.f kj115 l3 a4).bind fun bt493 => (if bt493.2 = true then (if t481 < bt493.1 then (none) else (laws_FnStepsAroundOfAll.j6 kj115 l7 l8 bt489.1 bt489.2)) else (none))) else (laws_FnStepsAroundOfAll.j6 kj115 l7 l8 bt489.1 bt489.2)) else (none))) else (none))) else (none)))))) = some r := H
         have A141 := Aside0.mk A1410
         clear A1410
         replace H := Option.bind_eq_some_iff.mp H
         obtain ⟨⟨t487, t488⟩, A1420, H⟩ := H
         replace H : ((impl_FirstRun.f kj115 l7 l8).bind fun bt489 => ((spec_FirstRun.f kj115 l7 l8).bind fun bt491 => (if (t482 != t484) = true then (none) else (if t481 = t483 then (if (t486 != t488) = true then (none) else (if t485 = t487 then (if (bt489.2 != bt491.2) = true then (none) else (if bt489.1 = bt491.1 then (if t482 = true then ((impl_CountStep.f kj115 l3 a4).bind fun bt493 => (if bt493.2 = true then (if t481 < bt493.1 then (none) else (laws_FnStepsAroundOfAll.j6 kj115 l7 l8 bt489.1 bt489.2)) else (none))) else (laws_FnStepsAroundOfAll.j6 kj115 l7 l8 bt489.1 bt489.2)) else (none))) else (none))) else (none))))) = some r := H
         have A142 := Aside0.mk A1420
         clear A1420
         replace H := Option.bind_eq_some_iff.mp H
         obtain ⟨⟨t489, t490⟩, A1430, H⟩ := H
         replace H : ((spec_FirstRun.f kj115 l7 l8).bind fun bt491 => (if (t482 != t484) = true then (none) else (if t481 = t483 then (if (t486 != t488) = true then (none) else (if t485 = t487 then (if (t490 != bt491.2) = true then (none) else (if t489 = bt491.1 then (if t482 = true then ((impl_CountStep.f kj115 l3 a4).bind fun bt493 => (if bt493.2 = true then (if t481 < bt493.1 then (none) else (laws_FnStepsAroundOfAll.j6 kj115 l7 l8 t489 t490)) else (none))) else (laws_FnStepsAroundOfAll.j6 kj115 l7 l8 t489 t490)) else (none))) else (none))) else (none)))) = some r := H
         have A143 := Aside0.mk A1430
         clear A1430
         replace H := Option.bind_eq_some_iff.mp H
         obtain ⟨⟨t491, t492⟩, A1440, H⟩ := H
         replace H : (if (t482 != t484) = true then (none) else (if t481 = t483 then (if (t486 != t488) = true then (none) else (if t485 = t487 then (if (t490 != t492) = true then (none) else (if t489 = t491 then (if t482 = true then ((impl_CountStep.f kj115 l3 a4).bind fun bt493 => (if bt493.2 = true then (if t481 < bt493.1 then (none) else (laws_FnStepsAroundOfAll.j6 kj115 l7 l8 t489 t490)) else (none))) else (laws_FnStepsAroundOfAll.j6 kj115 l7 l8 t489 t490)) else (none))) else (none))) else (none))) = some r := H
         have A144 := Aside0.mk A1440
         clear A1440
         have c145 : ¬ ((t482 != t484) = true) := fun c145 => by
          rw [if_pos c145] at H
          exact absurd H (by simp)
         rw [if_neg c145] at H
         have c145b0 : (t482 != t484) = false := by simpa using c145
         (try (have c145b1 : decide (t482 = t484) = true := by simpa using c145))
         (try (have c145b2 : (t482 == t484) = true := by simpa using c145))
         clear c145
         have c146 : t481 = t483 := Classical.byContradiction fun c146 => by
          rw [if_neg c146] at H
          exact absurd H (by simp)
         rw [if_pos c146] at H
         have c146b0 : (t481 == t483) = true := beq_iff_eq.mpr c146
         have c146b1 : (t481 != t483) = false := bne_eq_false_iff_eq.mpr c146
         clear c146
         have c147 : ¬ ((t486 != t488) = true) := fun c147 => by
          rw [if_pos c147] at H
          exact absurd H (by simp)
         rw [if_neg c147] at H
         have c147b0 : (t486 != t488) = false := by simpa using c147
         (try (have c147b1 : decide (t486 = t488) = true := by simpa using c147))
         (try (have c147b2 : (t486 == t488) = true := by simpa using c147))
         clear c147
         have c148 : t485 = t487 := Classical.byContradiction fun c148 => by
          rw [if_neg c148] at H
          exact absurd H (by simp)
         rw [if_pos c148] at H
         have c148b0 : (t485 == t487) = true := beq_iff_eq.mpr c148
         have c148b1 : (t485 != t487) = false := bne_eq_false_iff_eq.mpr c148
         clear c148
         have c149 : ¬ ((t490 != t492) = true) := fun c149 => by
          rw [if_pos c149] at H
          exact absurd H (by simp)
         rw [if_neg c149] at H
         have c149b0 : (t490 != t492) = false := by simpa using c149
         (try (have c149b1 : decide (t490 = t492) = true := by simpa using c149))
         (try (have c149b2 : (t490 == t492) = true := by simpa using c149))
         clear c149
         have c150 : t489 = t491 := Classical.byContradiction fun c150 => by
          rw [if_neg c150] at H
          exact absurd H (by simp)
         rw [if_pos c150] at H
         have c150b0 : (t489 == t491) = true := beq_iff_eq.mpr c150
         have c150b1 : (t489 != t491) = false := bne_eq_false_iff_eq.mpr c150
         clear c150
         have HC151 := Aside0.mk H
         clear H
         go_upto_if 499 with (first | ((with_reducible refine gate_callee (f := 42) rfl ?_); refine goesL_ (some 438) rfl rfl Try.func42 (by kernel_rfl) rfl #[.slice A3 l3.length c3, .int .i64 a4] rfl (by (try simp only [List.map_toArray, List.map_cons, List.map_nil]); first | done | rfl | (simp only [List.length_drop, List.length_take]; rfl)) ?_; (with_reducible refine (impl_TimesTogether.calls kj115 _ _ l3 a4 t481 t482 _ ?side1 ?side2 A139.out).mono ?_); (case side1 => repeat (first | exact (Kd.C_below HR3.out HB.out) | (with_reducible refine Kd.C_alloc ?_ _) | (with_reducible refine Kd.C_drewN ?_ _) | (with_reducible refine Kd.C_drew ?_))); (case side2 => exact HC3.out); rintro e w152 ⟨rfl, hb⟩; refine ⟨_, rfl, ?_⟩; have n0_ := Aside0.mk (below_step (by repeat (first | (with_reducible first | exact HB.out | apply below_alloc | apply pw_below_drewN | apply below_drew1) | exact HB.out)) hb); clear HB; have HB := n0_; clear n0_; (try clear hb); (try clear hb2); (try clear hk); (try clear hi)) | ((with_reducible refine gate_callee (f := 43) rfl ?_); refine goesL_ (some 444) rfl rfl Try.func43 (by kernel_rfl) rfl #[.slice A3 l3.length c3, .int .i64 a4] rfl (by (try simp only [List.map_toArray, List.map_cons, List.map_nil]); first | done | rfl | (simp only [List.length_drop, List.length_take]; rfl)) ?_; (with_reducible refine (spec_TimesTogether.calls kj115 _ _ l3 a4 t483 t484 _ ?side1 ?side2 A140.out).mono ?_); (case side1 => repeat (first | exact (Kd.C_below HR3.out HB.out) | (with_reducible refine Kd.C_alloc ?_ _) | (with_reducible refine Kd.C_drewN ?_ _) | (with_reducible refine Kd.C_drew ?_))); (case side2 => exact HC3.out); rintro e w153 ⟨rfl, hb⟩; refine ⟨_, rfl, ?_⟩; have n0_ := Aside0.mk (below_step (by repeat (first | (with_reducible first | exact HB.out | apply below_alloc | apply pw_below_drewN | apply below_drew1) | exact HB.out)) hb); clear HB; have HB := n0_; clear n0_; (try clear hb); (try clear hb2); (try clear hk); (try clear hi)) | ((with_reducible refine gate_callee (f := 36) rfl ?_); refine goesL_ (some 450) rfl rfl Try.func36 (by kernel_rfl) rfl #[.slice A5 l5.length c5, .int .i64 a6] rfl (by (try simp only [List.map_toArray, List.map_cons, List.map_nil]); first | done | rfl | (simp only [List.length_drop, List.length_take]; rfl)) ?_; (with_reducible refine (impl_CountStep.calls kj115 _ _ l5 a6 t485 t486 _ ?side1 ?side2 A141.out).mono ?_); (case side1 => repeat (first | exact (Kd.C_below HR5.out HB.out) | (with_reducible refine Kd.C_alloc ?_ _) | (with_reducible refine Kd.C_drewN ?_ _) | (with_reducible refine Kd.C_drew ?_))); (case side2 => exact HC5.out); rintro e w154 ⟨rfl, hb⟩; refine ⟨_, rfl, ?_⟩; have n0_ := Aside0.mk (below_step (by repeat (first | (with_reducible first | exact HB.out | apply below_alloc | apply pw_below_drewN | apply below_drew1) | exact HB.out)) hb); clear HB; have HB := n0_; clear n0_; (try clear hb); (try clear hb2); (try clear hk); (try clear hi)) | ((with_reducible refine gate_callee (f := 45) rfl ?_); refine goesL_ (some 456) rfl rfl Try.func45 (by kernel_rfl) rfl #[.slice A5 l5.length c5, .int .i64 a6] rfl (by (try simp only [List.map_toArray, List.map_cons, List.map_nil]); first | done | rfl | (simp only [List.length_drop, List.length_take]; rfl)) ?_; (with_reducible refine (spec_CountStep.calls kj115 _ _ l5 a6 t487 t488 _ ?side1 ?side2 A142.out).mono ?_); (case side1 => repeat (first | exact (Kd.C_below HR5.out HB.out) | (with_reducible refine Kd.C_alloc ?_ _) | (with_reducible refine Kd.C_drewN ?_ _) | (with_reducible refine Kd.C_drew ?_))); (case side2 => exact HC5.out); rintro e w155 ⟨rfl, hb⟩; refine ⟨_, rfl, ?_⟩; have n0_ := Aside0.mk (below_step (by repeat (first | (with_reducible first | exact HB.out | apply below_alloc | apply pw_below_drewN | apply below_drew1) | exact HB.out)) hb); clear HB; have HB := n0_; clear n0_; (try clear hb); (try clear hb2); (try clear hk); (try clear hi)) | ((with_reducible refine gate_callee (f := 47) rfl ?_); refine goesL_ (some 462) rfl rfl Try.func47 (by kernel_rfl) rfl #[.slice A7 l7.length c7, .slice A8 l8.length c8] rfl (by (try simp only [List.map_toArray, List.map_cons, List.map_nil]); first | done | rfl | (simp only [List.length_drop, List.length_take]; rfl)) ?_; (with_reducible refine (impl_FirstRun.calls kj115 _ _ l7 _ _ l8 t489 t490 _ ?side1 ?side2 ?side3 ?side4 A143.out).mono ?_); (case side1 => repeat (first | exact (Kd.C_below HR7.out HB.out) | (with_reducible refine Kd.C_alloc ?_ _) | (with_reducible refine Kd.C_drewN ?_ _) | (with_reducible refine Kd.C_drew ?_))); (case side2 => exact HC7.out); (case side3 => repeat (first | exact (Kd.C_below HR8.out HB.out) | (with_reducible refine Kd.C_alloc ?_ _) | (with_reducible refine Kd.C_drewN ?_ _) | (with_reducible refine Kd.C_drew ?_))); (case side4 => exact HC8.out); rintro e w156 ⟨rfl, hb⟩; refine ⟨_, rfl, ?_⟩; have n0_ := Aside0.mk (below_step (by repeat (first | (with_reducible first | exact HB.out | apply below_alloc | apply pw_below_drewN | apply below_drew1) | exact HB.out)) hb); clear HB; have HB := n0_; clear n0_; (try clear hb); (try clear hb2); (try clear hk); (try clear hi)) | ((with_reducible refine gate_callee (f := 48) rfl ?_); refine goesL_ (some 468) rfl rfl Try.func48 (by kernel_rfl) rfl #[.slice A7 l7.length c7, .slice A8 l8.length c8] rfl (by (try simp only [List.map_toArray, List.map_cons, List.map_nil]); first | done | rfl | (simp only [List.length_drop, List.length_take]; rfl)) ?_; (with_reducible refine (spec_FirstRun.calls kj115 _ _ l7 _ _ l8 t491 t492 _ ?side1 ?side2 ?side3 ?side4 A144.out).mono ?_); (case side1 => repeat (first | exact (Kd.C_below HR7.out HB.out) | (with_reducible refine Kd.C_alloc ?_ _) | (with_reducible refine Kd.C_drewN ?_ _) | (with_reducible refine Kd.C_drew ?_))); (case side2 => exact HC7.out); (case side3 => repeat (first | exact (Kd.C_below HR8.out HB.out) | (with_reducible refine Kd.C_alloc ?_ _) | (with_reducible refine Kd.C_drewN ?_ _) | (with_reducible refine Kd.C_drew ?_))); (case side4 => exact HC8.out); rintro e w157 ⟨rfl, hb⟩; refine ⟨_, rfl, ?_⟩; have n0_ := Aside0.mk (below_step (by repeat (first | (with_reducible first | exact HB.out | apply below_alloc | apply pw_below_drewN | apply below_drew1) | exact HB.out)) hb); clear HB; have HB := n0_; clear n0_; (try clear hb); (try clear hb2); (try clear hk); (try clear hi)))
         (try simp only [Act.put, List.setIfInBounds_toArray, List.set_cons_zero, List.set_cons_succ])
         go_cut [] from 9999 to 9999 (fun wc => ∃ (kq : Nat), Aside0 (laws_FnStepsAroundOfAll.j6 kq l7 l8 t489 t490 = some r) ∧ Aside0 (kq ≤ kj115) ∧ Aside0 (Below w.heap.size w wc))
         case first =>
          as_aux_lemma =>
          have H := HC151.out
          clear HC151
          by_cases c158 : t482 = true
          ·subst c158
           have H1 : ((impl_CountStep.f kj115 l3 a4).bind fun bt493 => (if bt493.2 = true then (if t481 < bt493.1 then (none) else (laws_FnStepsAroundOfAll.j6 kj115 l7 l8 t489 t490)) else (none))) = some r := by rw [if_pos rfl] at H; exact H
           clear H
           have H := H1
           clear H1
           replace H := Option.bind_eq_some_iff.mp H
           obtain ⟨⟨t493, t494⟩, A1590, H⟩ := H
           replace H : (if t494 = true then (if t481 < t493 then (none) else (laws_FnStepsAroundOfAll.j6 kj115 l7 l8 t489 t490)) else (none)) = some r := H
           have A159 := Aside0.mk A1590
           clear A1590
           have c160 : t494 = true := Classical.byContradiction fun c160 => by
            replace c160 := Bool.eq_false_iff.mpr c160
            subst c160
            have H1 : (none) = some r := by rw [if_neg (show ¬ (false = true) by decide)] at H; exact H
            clear H
            have H := H1
            clear H1
            exact absurd H (by simp)
           subst c160
           have H1 : (if t481 < t493 then (none) else (laws_FnStepsAroundOfAll.j6 kj115 l7 l8 t489 t490)) = some r := by rw [if_pos rfl] at H; exact H
           clear H
           have H := H1
           clear H1
           have c161 : ¬ (t481 < t493) := fun c161 => by
            rw [if_pos c161] at H
            exact absurd H (by simp)
           rw [if_neg c161] at H
           have c161b0 : decide (t481 < t493) = false := decide_eq_false c161
           clear c161
           (first | rw [c161b0] | (simp only [i64_w, i32_w]; rw [c161b0]) | skip)
           have H' := Aside0.mk H
           clear H
           as_aux_lemma =>
           go_wp2_with (first | ((with_reducible refine gate_callee (f := 36) rfl ?_); refine goesL_ (some 503) rfl rfl Try.func36 (by kernel_rfl) rfl #[.slice A3 l3.length c3, .int .i64 a4] rfl (by (try simp only [List.map_toArray, List.map_cons, List.map_nil]); first | done | rfl | (simp only [List.length_drop, List.length_take]; rfl)) ?_; (with_reducible refine (impl_CountStep.calls kj115 _ _ l3 a4 t493 true _ ?side1 ?side2 A159.out).mono ?_); (case side1 => repeat (first | exact (Kd.C_below HR3.out HB.out) | (with_reducible refine Kd.C_alloc ?_ _) | (with_reducible refine Kd.C_drewN ?_ _) | (with_reducible refine Kd.C_drew ?_))); (case side2 => exact HC3.out); rintro e w162 ⟨rfl, hb⟩; refine ⟨_, rfl, ?_⟩; have n0_ := Aside0.mk (below_step (by repeat (first | (with_reducible first | exact HB.out | apply below_alloc | apply pw_below_drewN | apply below_drew1) | exact HB.out)) hb); clear HB; have HB := n0_; clear n0_; (try clear hb); (try clear hb2); (try clear hk); (try clear hi)))
           as_aux_lemma =>
           go_meet
           case rel => exact ⟨_, H', ⟨by have := HJ9.out; have := HJ39.out; have := HJ115.out; first | omega | exact Nat.le_refl _⟩, ⟨by repeat (first | (with_reducible first | exact HB.out | apply below_alloc | apply pw_below_drewN | apply below_drew1) | exact HB.out)⟩⟩
          ·replace c158 := Bool.eq_false_iff.mpr c158
           subst c158
           have H1 : (laws_FnStepsAroundOfAll.j6 kj115 l7 l8 t489 t490) = some r := by rw [if_neg (show ¬ (false = true) by decide)] at H; exact H
           clear H
           have H := H1
           clear H1
           have H' := Aside0.mk H
           clear H
           as_aux_lemma =>
           go_wp2
           as_aux_lemma =>
           go_meet
           case rel => exact ⟨_, H', ⟨by have := HJ9.out; have := HJ39.out; have := HJ115.out; first | omega | exact Nat.le_refl _⟩, ⟨by repeat (first | (with_reducible first | exact HB.out | apply below_alloc | apply pw_below_drewN | apply below_drew1) | exact HB.out)⟩⟩
         case rest =>
          as_aux_lemma =>
          clear HC151
          try clear c1
          try clear c2
          try clear p2
          try clear c3
          try clear c4
          try clear p4
          try clear q4
          try clear hx4
          try clear c5
          try clear c6
          try clear p6
          try clear c7
          try clear c8
          try clear c9
          try clear c10
          try clear c11
          try clear c11b0
          try clear c11b1
          try clear c12
          try clear c12b0
          try clear c12b1
          try clear c13
          try clear c13b0
          try clear c13b1
          try clear c14
          try clear c14b0
          try clear c14b1
          try clear c15
          try clear c15b0
          try clear c15b1
          try clear c16
          try clear c17
          try clear c19
          try clear c22
          try clear c26
          try clear c26b0
          try clear c26b1
          try clear c26b2
          try clear c27
          try clear c27b0
          try clear c27b1
          try clear c28
          try clear c28b0
          try clear c28b1
          try clear c29
          try clear c29b0
          try clear c29b1
          try clear c29b2
          try clear c30
          try clear c31
          try clear c32
          try clear c32b0
          try clear c32b1
          try clear c32b2
          try clear c33
          try clear c33b0
          try clear c33b1
          try clear c34
          try clear c34b0
          try clear c34b1
          try clear c34b2
          try clear c35
          try clear c35b0
          try clear c35b1
          try clear c35b2
          try clear c36
          try clear c36b0
          try clear c36b1
          try clear c36b2
          try clear c37
          try clear c37b0
          try clear c37b1
          try clear c37b2
          try clear c38
          try clear c38b0
          try clear c38b1
          try clear c38b2
          try clear c39
          try clear c39b0
          try clear c39b1
          try clear c39b2
          try clear c40
          try clear c42
          try clear c43
          try clear p44
          try clear q44
          try clear hx44
          try clear c45
          try clear p45
          try clear q45
          try clear hx45
          try clear c47
          try clear c48
          try clear c52
          try clear c57
          try clear c57b0
          try clear c58
          try clear c58b0
          try clear c59
          try clear c59b0
          try clear c61
          try clear c62
          try clear c62b0
          try clear c64
          try clear p64
          try clear c65
          try clear c65b0
          try clear c67
          try clear c67b0
          try clear c68
          try clear c68b0
          try clear c69
          try clear c69b0
          try clear c74
          try clear c75
          try clear c75b0
          try clear c75b1
          try clear c76
          try clear c76b0
          try clear c76b1
          try clear c77
          try clear c78
          try clear c78b0
          try clear c78b1
          try clear c79
          try clear c79b0
          try clear c79b1
          try clear c81
          try clear c82
          try clear c82b0
          try clear c82b1
          try clear c83
          try clear c83b0
          try clear c83b1
          try clear c86
          try clear c86b0
          try clear c87
          try clear c87b0
          try clear c88
          try clear c88b0
          try clear c89
          try clear c89b0
          try clear c90
          try clear c90b0
          try clear c90b1
          try clear c91
          try clear c91b0
          try clear c92
          try clear c92b0
          try clear c93
          try clear c94
          try clear c94b0
          try clear c95
          try clear c95b0
          try clear c96
          try clear c96b0
          try clear c98
          try clear c98b0
          try clear c99
          try clear c99b0
          try clear c100
          try clear c100b0
          try clear c100b1
          try clear c101
          try clear c101b0
          try clear c101b1
          try clear c101b2
          try clear c103
          try clear c103b0
          try clear c104
          try clear c104b0
          try clear c105
          try clear c105b0
          try clear c105b1
          try clear c106
          try clear c106b0
          try clear c106b1
          try clear c106b2
          try clear c108
          try clear c108b0
          try clear c109
          try clear c109b0
          try clear c110
          try clear c110b0
          try clear c110b1
          try clear c113
          try clear c113b0
          try clear c113b1
          try clear c113b2
          try clear c115
          try clear c121
          try clear c123
          try clear c124
          try clear c126
          try clear c127
          try clear c127b0
          try clear c127b1
          try clear c128
          try clear c130
          try clear c145
          try clear c145b0
          try clear c145b1
          try clear c145b2
          try clear c146
          try clear c146b0
          try clear c146b1
          try clear c147
          try clear c147b0
          try clear c147b1
          try clear c147b2
          try clear c148
          try clear c148b0
          try clear c148b1
          try clear c149
          try clear c149b0
          try clear c149b1
          try clear c149b2
          try clear c150
          try clear c150b0
          try clear c150b1
          try clear c158
          try clear c160
          try clear c161
          try clear c161b0
          try clear hx444_0
          try clear hx448_0
          try clear hx450_0
          try clear hx451_0
          try clear hx452_0
          try clear hx453_0
          try clear hx454_0
          try clear hx455_0
          try clear p2
          try clear p4
          try clear p44
          try clear p444
          try clear p448
          try clear p45
          try clear p450
          try clear p451
          try clear p452
          try clear p453
          try clear p454
          try clear p455
          try clear p6
          try clear p64
          try clear q4
          try clear q44
          try clear q444
          try clear q448
          try clear q45
          try clear q450
          try clear q451
          try clear q452
          try clear q453
          try clear q454
          try clear q455
          obtain ⟨kq, HA, HJ150, HB⟩ := hcut
          cases kq with
          | zero => exact absurd HA.out (by simp [laws_FnStepsAroundOfAll.j6])
          | succ kj150 =>
           have H := HA.out
           clear HA
           simp only [laws_FnStepsAroundOfAll.j6] at H
           by_cases c163 : t490 = true
           ·subst c163
            have H1 : (laws_FnStepsAroundOfAll.l3 kj150 l7 t489 l8 (l8.length : Int) 0) = some r := by rw [if_pos rfl] at H; exact H
            clear H
            have H := H1
            clear H1
            have H' := Aside0.mk H
            clear H
            as_aux_lemma =>
            go_wp2
            as_aux_lemma =>
            go_loopg [76, 517] kj150 (fun kq v76 v517 w' => ∃ (x76_5 : Int) (x517_5 : Int), v76 = .int .i64 x76_5 ∧ v517 = .int .i64 x517_5 ∧ Aside0 (laws_FnStepsAroundOfAll.l3 kq l7 x76_5 l8 (l8.length : Int) x517_5 = some r) ∧ Aside0 (kq ≤ kj150) ∧ Aside0 (Below w.heap.size w w'))
            case atStart => exact ⟨(t489), (0), (by first | rfl | (simp; done) | (simp [*]; done)), (by first | rfl | (simp; done) | (simp [*]; done)), H', ⟨Nat.le_refl _⟩, ⟨by repeat (first | (with_reducible first | exact HB.out | apply below_alloc | apply pw_below_drewN | apply below_drew1) | exact HB.out)⟩⟩
            case round =>
             as_aux_lemma =>
             clear H'
             try clear c1
             try clear c2
             try clear p2
             try clear c3
             try clear c4
             try clear p4
             try clear q4
             try clear hx4
             try clear c5
             try clear c6
             try clear p6
             try clear c7
             try clear c8
             try clear c9
             try clear c10
             try clear c11
             try clear c11b0
             try clear c11b1
             try clear c12
             try clear c12b0
             try clear c12b1
             try clear c13
             try clear c13b0
             try clear c13b1
             try clear c14
             try clear c14b0
             try clear c14b1
             try clear c15
             try clear c15b0
             try clear c15b1
             try clear c16
             try clear c17
             try clear c19
             try clear c22
             try clear c26
             try clear c26b0
             try clear c26b1
             try clear c26b2
             try clear c27
             try clear c27b0
             try clear c27b1
             try clear c28
             try clear c28b0
             try clear c28b1
             try clear c29
             try clear c29b0
             try clear c29b1
             try clear c29b2
             try clear c30
             try clear c31
             try clear c32
             try clear c32b0
             try clear c32b1
             try clear c32b2
             try clear c33
             try clear c33b0
             try clear c33b1
             try clear c34
             try clear c34b0
             try clear c34b1
             try clear c34b2
             try clear c35
             try clear c35b0
             try clear c35b1
             try clear c35b2
             try clear c36
             try clear c36b0
             try clear c36b1
             try clear c36b2
             try clear c37
             try clear c37b0
             try clear c37b1
             try clear c37b2
             try clear c38
             try clear c38b0
             try clear c38b1
             try clear c38b2
             try clear c39
             try clear c39b0
             try clear c39b1
             try clear c39b2
             try clear c40
             try clear c42
             try clear c43
             try clear p44
             try clear q44
             try clear hx44
             try clear c45
             try clear p45
             try clear q45
             try clear hx45
             try clear c47
             try clear c48
             try clear c52
             try clear c57
             try clear c57b0
             try clear c58
             try clear c58b0
             try clear c59
             try clear c59b0
             try clear c61
             try clear c62
             try clear c62b0
             try clear c64
             try clear p64
             try clear c65
             try clear c65b0
             try clear c67
             try clear c67b0
             try clear c68
             try clear c68b0
             try clear c69
             try clear c69b0
             try clear c74
             try clear c75
             try clear c75b0
             try clear c75b1
             try clear c76
             try clear c76b0
             try clear c76b1
             try clear c77
             try clear c78
             try clear c78b0
             try clear c78b1
             try clear c79
             try clear c79b0
             try clear c79b1
             try clear c81
             try clear c82
             try clear c82b0
             try clear c82b1
             try clear c83
             try clear c83b0
             try clear c83b1
             try clear c86
             try clear c86b0
             try clear c87
             try clear c87b0
             try clear c88
             try clear c88b0
             try clear c89
             try clear c89b0
             try clear c90
             try clear c90b0
             try clear c90b1
             try clear c91
             try clear c91b0
             try clear c92
             try clear c92b0
             try clear c93
             try clear c94
             try clear c94b0
             try clear c95
             try clear c95b0
             try clear c96
             try clear c96b0
             try clear c98
             try clear c98b0
             try clear c99
             try clear c99b0
             try clear c100
             try clear c100b0
             try clear c100b1
             try clear c101
             try clear c101b0
             try clear c101b1
             try clear c101b2
             try clear c103
             try clear c103b0
             try clear c104
             try clear c104b0
             try clear c105
             try clear c105b0
             try clear c105b1
             try clear c106
             try clear c106b0
             try clear c106b1
             try clear c106b2
             try clear c108
             try clear c108b0
             try clear c109
             try clear c109b0
             try clear c110
             try clear c110b0
             try clear c110b1
             try clear c113
             try clear c113b0
             try clear c113b1
             try clear c113b2
             try clear c115
             try clear c121
             try clear c123
             try clear c124
             try clear c126
             try clear c127
             try clear c127b0
             try clear c127b1
             try clear c128
             try clear c130
             try clear c145
             try clear c145b0
             try clear c145b1
             try clear c145b2
             try clear c146
             try clear c146b0
             try clear c146b1
             try clear c147
             try clear c147b0
             try clear c147b1
             try clear c147b2
             try clear c148
             try clear c148b0
             try clear c148b1
             try clear c149
             try clear c149b0
             try clear c149b1
             try clear c149b2
             try clear c150
             try clear c150b0
             try clear c150b1
             try clear c158
             try clear c160
             try clear c161
             try clear c161b0
             try clear c163
             try clear hx444_0
             try clear hx448_0
             try clear hx450_0
             try clear hx451_0
             try clear hx452_0
             try clear hx453_0
             try clear hx454_0
             try clear hx455_0
             try clear p2
             try clear p4
             try clear p44
             try clear p444
             try clear p448
             try clear p45
             try clear p450
             try clear p451
             try clear p452
             try clear p453
             try clear p454
             try clear p455
             try clear p6
             try clear p64
             try clear q4
             try clear q44
             try clear q444
             try clear q448
             try clear q45
             try clear q450
             try clear q451
             try clear q452
             try clear q453
             try clear q454
             try clear q455
             obtain ⟨x76_5, x517_5, rfl, rfl, HA, HK5, HB⟩ := hrel
             cases gk with
             | zero => exact absurd HA.out (by simp [laws_FnStepsAroundOfAll.l3])
             | succ k5 =>
              have H := HA.out
              clear HA
              simp only [laws_FnStepsAroundOfAll.l3] at H
              by_cases c164 : x517_5 < (l8.length : Int)
              ·as_aux_lemma =>
               rw [if_pos c164] at H
               have c164b0 : decide (x517_5 < (l8.length : Int)) = true := decide_eq_true c164
               clear c164
               have c165 : 0 ≤ x517_5 := Classical.byContradiction fun c165 => by
                rw [if_neg c165] at H
                exact absurd H (by simp)
               rw [if_pos c165] at H
               have c165b0 : decide (0 ≤ x517_5) = true := decide_eq_true c165
               clear c165
               have c166 : x517_5 < (l8.length : Int) := Classical.byContradiction fun c166 => by
                rw [if_neg c166] at H
                exact absurd H (by simp)
               rw [if_pos c166] at H
               have c166b0 : decide (x517_5 < (l8.length : Int)) = true := decide_eq_true c166
               clear c166
               replace H := Option.bind_eq_some_iff.mp H
               obtain ⟨⟨t496, t497⟩, A1670, H⟩ := H
               replace H : (if t497 = true then (if t496 = true then (laws_FnStepsAroundOfAll.l4 k5 l7 x76_5 (rd l8 x517_5) 1 l8 (l8.length : Int) x517_5) else (none)) else (none)) = some r := H
               have A167 := Aside0.mk A1670
               clear A1670
               have c168 : t497 = true := Classical.byContradiction fun c168 => by
                replace c168 := Bool.eq_false_iff.mpr c168
                subst c168
                have H1 : (none) = some r := by rw [if_neg (show ¬ (false = true) by decide)] at H; exact H
                clear H
                have H := H1
                clear H1
                exact absurd H (by simp)
               subst c168
               have H1 : (if t496 = true then (laws_FnStepsAroundOfAll.l4 k5 l7 x76_5 (rd l8 x517_5) 1 l8 (l8.length : Int) x517_5) else (none)) = some r := by rw [if_pos rfl] at H; exact H
               clear H
               have H := H1
               clear H1
               have c169 : t496 = true := Classical.byContradiction fun c169 => by
                replace c169 := Bool.eq_false_iff.mpr c169
                subst c169
                have H1 : (none) = some r := by rw [if_neg (show ¬ (false = true) by decide)] at H; exact H
                clear H
                have H := H1
                clear H1
                exact absurd H (by simp)
               subst c169
               have H1 : (laws_FnStepsAroundOfAll.l4 k5 l7 x76_5 (rd l8 x517_5) 1 l8 (l8.length : Int) x517_5) = some r := by rw [if_pos rfl] at H; exact H
               clear H
               have H := H1
               clear H1
               have H' := Aside0.mk H
               clear H
               have p495 : 0 ≤ (x517_5 : Int) := of_decide_eq_true (by first | (with_reducible assumption) | assumption)
               have q495 : x517_5 < (l8.length : Int) := of_decide_eq_true (by first | (with_reducible assumption) | assumption)
               obtain ⟨ad495, e495, hx495_0⟩ := Kd.at_int HR8.out x517_5 p495 q495
               cases e495
               replace hx495_0 := (HB.out.cell (World.block_lt_of_cell? w _ hx495_0)).trans hx495_0
               replace p495 := eq_true p495
               replace q495 := eq_true q495
               as_aux_lemma =>
               go_wp2_with (first | ((with_reducible refine gate_callee (f := 11) rfl ?_); refine goesL_ (some 526) rfl rfl Try.func11 (by kernel_rfl) rfl #[.slice A7 l7.length c7, .int .i64 (wrap64 (x76_5 + (rd l8 x517_5)))] rfl (by (try simp only [List.map_toArray, List.map_cons, List.map_nil]); first | done | rfl | (simp only [List.length_drop, List.length_take]; rfl)) ?_; (with_reducible refine (impl_IsSpoke.calls k5 _ _ l7 (wrap64 (x76_5 + (rd l8 x517_5))) true true _ ?side1 ?side2 A167.out).mono ?_); (case side1 => repeat (first | exact (Kd.C_below HR7.out HB.out) | (with_reducible refine Kd.C_alloc ?_ _) | (with_reducible refine Kd.C_drewN ?_ _) | (with_reducible refine Kd.C_drew ?_))); (case side2 => exact HC7.out); rintro e w170 ⟨rfl, hb⟩; refine ⟨_, rfl, ?_⟩; have n0_ := Aside0.mk (below_step (by repeat (first | (with_reducible first | exact HB.out | apply below_alloc | apply pw_below_drewN | apply below_drew1) | exact HB.out)) hb); clear HB; have HB := n0_; clear n0_; (try clear hb); (try clear hb2); (try clear hk); (try clear hi)))
               as_aux_lemma =>
               go_loopg [81] k5 (fun kq v81 w' => ∃ (x81_6 : Int), v81 = .int .i64 x81_6 ∧ Aside0 (laws_FnStepsAroundOfAll.l4 kq l7 x76_5 (rd l8 x517_5) x81_6 l8 (l8.length : Int) x517_5 = some r) ∧ Aside0 (kq ≤ k5) ∧ Aside0 (Below w.heap.size w w'))
               case atStart => exact ⟨(1), (by first | rfl | (simp; done) | (simp [*]; done)), H', ⟨Nat.le_refl _⟩, ⟨by repeat (first | (with_reducible first | exact HB.out | apply below_alloc | apply pw_below_drewN | apply below_drew1) | exact HB.out)⟩⟩
               case round =>
                as_aux_lemma =>
                clear H'
                try clear c1
                try clear c2
                try clear p2
                try clear c3
                try clear c4
                try clear p4
                try clear q4
                try clear hx4
                try clear c5
                try clear c6
                try clear p6
                try clear c7
                try clear c8
                try clear c9
                try clear c10
                try clear c11
                try clear c11b0
                try clear c11b1
                try clear c12
                try clear c12b0
                try clear c12b1
                try clear c13
                try clear c13b0
                try clear c13b1
                try clear c14
                try clear c14b0
                try clear c14b1
                try clear c15
                try clear c15b0
                try clear c15b1
                try clear c16
                try clear c17
                try clear c19
                try clear c22
                try clear c26
                try clear c26b0
                try clear c26b1
                try clear c26b2
                try clear c27
                try clear c27b0
                try clear c27b1
                try clear c28
                try clear c28b0
                try clear c28b1
                try clear c29
                try clear c29b0
                try clear c29b1
                try clear c29b2
                try clear c30
                try clear c31
                try clear c32
                try clear c32b0
                try clear c32b1
                try clear c32b2
                try clear c33
                try clear c33b0
                try clear c33b1
                try clear c34
                try clear c34b0
                try clear c34b1
                try clear c34b2
                try clear c35
                try clear c35b0
                try clear c35b1
                try clear c35b2
                try clear c36
                try clear c36b0
                try clear c36b1
                try clear c36b2
                try clear c37
                try clear c37b0
                try clear c37b1
                try clear c37b2
                try clear c38
                try clear c38b0
                try clear c38b1
                try clear c38b2
                try clear c39
                try clear c39b0
                try clear c39b1
                try clear c39b2
                try clear c40
                try clear c42
                try clear c43
                try clear p44
                try clear q44
                try clear hx44
                try clear c45
                try clear p45
                try clear q45
                try clear hx45
                try clear c47
                try clear c48
                try clear p49
                try clear q49
                try clear hx49
                try clear c52
                try clear c57
                try clear c57b0
                try clear c58
                try clear c58b0
                try clear c59
                try clear c59b0
                try clear c61
                try clear c62
                try clear c62b0
                try clear c64
                try clear p64
                try clear c65
                try clear c65b0
                try clear c67
                try clear c67b0
                try clear c68
                try clear c68b0
                try clear c69
                try clear c69b0
                try clear c74
                try clear c75
                try clear c75b0
                try clear c75b1
                try clear c76
                try clear c76b0
                try clear c76b1
                try clear c77
                try clear c78
                try clear c78b0
                try clear c78b1
                try clear c79
                try clear c79b0
                try clear c79b1
                try clear c81
                try clear c82
                try clear c82b0
                try clear c82b1
                try clear c83
                try clear c83b0
                try clear c83b1
                try clear c86
                try clear c86b0
                try clear c87
                try clear c87b0
                try clear c88
                try clear c88b0
                try clear c89
                try clear c89b0
                try clear c90
                try clear c90b0
                try clear c90b1
                try clear c91
                try clear c91b0
                try clear c92
                try clear c92b0
                try clear c93
                try clear c94
                try clear c94b0
                try clear c95
                try clear c95b0
                try clear c96
                try clear c96b0
                try clear c98
                try clear c98b0
                try clear c99
                try clear c99b0
                try clear c100
                try clear c100b0
                try clear c100b1
                try clear c101
                try clear c101b0
                try clear c101b1
                try clear c101b2
                try clear c103
                try clear c103b0
                try clear c104
                try clear c104b0
                try clear c105
                try clear c105b0
                try clear c105b1
                try clear c106
                try clear c106b0
                try clear c106b1
                try clear c106b2
                try clear c108
                try clear c108b0
                try clear c109
                try clear c109b0
                try clear c110
                try clear c110b0
                try clear c110b1
                try clear c113
                try clear c113b0
                try clear c113b1
                try clear c113b2
                try clear c115
                try clear c121
                try clear c123
                try clear c124
                try clear c126
                try clear c127
                try clear c127b0
                try clear c127b1
                try clear c128
                try clear c130
                try clear c145
                try clear c145b0
                try clear c145b1
                try clear c145b2
                try clear c146
                try clear c146b0
                try clear c146b1
                try clear c147
                try clear c147b0
                try clear c147b1
                try clear c147b2
                try clear c148
                try clear c148b0
                try clear c148b1
                try clear c149
                try clear c149b0
                try clear c149b1
                try clear c149b2
                try clear c150
                try clear c150b0
                try clear c150b1
                try clear c158
                try clear c160
                try clear c161
                try clear c161b0
                try clear c163
                try clear c164
                try clear c164b0
                try clear c165
                try clear c165b0
                try clear c166
                try clear c166b0
                try clear c168
                try clear c169
                try clear hx444_0
                try clear hx448_0
                try clear hx450_0
                try clear hx451_0
                try clear hx452_0
                try clear hx453_0
                try clear hx454_0
                try clear hx455_0
                try clear hx495_0
                try clear p2
                try clear p4
                try clear p44
                try clear p444
                try clear p448
                try clear p45
                try clear p450
                try clear p451
                try clear p452
                try clear p453
                try clear p454
                try clear p455
                try clear p495
                try clear p6
                try clear p64
                try clear q4
                try clear q44
                try clear q444
                try clear q448
                try clear q45
                try clear q450
                try clear q451
                try clear q452
                try clear q453
                try clear q454
                try clear q455
                try clear q495
                obtain ⟨x81_6, rfl, HA, HK6, HB⟩ := hrel
                cases gk with
                | zero => exact absurd HA.out (by simp [laws_FnStepsAroundOfAll.l4])
                | succ k6 =>
                 have H := HA.out
                 clear HA
                 simp only [laws_FnStepsAroundOfAll.l4] at H
                 by_cases c171 : x81_6 < (rd l8 x517_5)
                 ·as_aux_lemma =>
                  rw [if_pos c171] at H
                  have c171b0 : decide (x81_6 < (rd l8 x517_5)) = true := decide_eq_true c171
                  clear c171
                  replace H := Option.bind_eq_some_iff.mp H
                  obtain ⟨⟨t498, t499⟩, A1720, H⟩ := H
                  replace H : (if t499 = true then (if t498 = true then (none) else (laws_FnStepsAroundOfAll.l4 k6 l7 x76_5 (rd l8 x517_5) (wrap64 (x81_6 + 1)) l8 (l8.length : Int) x517_5)) else (none)) = some r := H
                  have A172 := Aside0.mk A1720
                  clear A1720
                  have c173 : t499 = true := Classical.byContradiction fun c173 => by
                   replace c173 := Bool.eq_false_iff.mpr c173
                   subst c173
                   have H1 : (none) = some r := by rw [if_neg (show ¬ (false = true) by decide)] at H; exact H
                   clear H
                   have H := H1
                   clear H1
                   exact absurd H (by simp)
                  subst c173
                  have H1 : (if t498 = true then (none) else (laws_FnStepsAroundOfAll.l4 k6 l7 x76_5 (rd l8 x517_5) (wrap64 (x81_6 + 1)) l8 (l8.length : Int) x517_5)) = some r := by rw [if_pos rfl] at H; exact H
                  clear H
                  have H := H1
                  clear H1
                  have c174 : ¬ (t498 = true) := fun c174 => by
                   subst c174
                   have H1 : (none) = some r := by rw [if_pos rfl] at H; exact H
                   clear H
                   have H := H1
                   clear H1
                   exact absurd H (by simp)
                  replace c174 := Bool.eq_false_iff.mpr c174
                  subst c174
                  have H1 : (laws_FnStepsAroundOfAll.l4 k6 l7 x76_5 (rd l8 x517_5) (wrap64 (x81_6 + 1)) l8 (l8.length : Int) x517_5) = some r := by rw [if_neg (show ¬ (false = true) by decide)] at H; exact H
                  clear H
                  have H := H1
                  clear H1
                  have H' := Aside0.mk H
                  clear H
                  as_aux_lemma =>
                  go_wp2_with (first | ((with_reducible refine gate_callee (f := 11) rfl ?_); refine goesL_ (some 545) rfl rfl Try.func11 (by kernel_rfl) rfl #[.slice A7 l7.length c7, .int .i64 (wrap64 (x76_5 + x81_6))] rfl (by (try simp only [List.map_toArray, List.map_cons, List.map_nil]); first | done | rfl | (simp only [List.length_drop, List.length_take]; rfl)) ?_; (with_reducible refine (impl_IsSpoke.calls k6 _ _ l7 (wrap64 (x76_5 + x81_6)) false true _ ?side1 ?side2 A172.out).mono ?_); (case side1 => repeat (first | exact (Kd.C_below HR7.out HB.out) | (with_reducible refine Kd.C_alloc ?_ _) | (with_reducible refine Kd.C_drewN ?_ _) | (with_reducible refine Kd.C_drew ?_))); (case side2 => exact HC7.out); rintro e w175 ⟨rfl, hb⟩; refine ⟨_, rfl, ?_⟩; have n0_ := Aside0.mk (below_step (by repeat (first | (with_reducible first | exact HB.out | apply below_alloc | apply pw_below_drewN | apply below_drew1) | exact HB.out)) hb); clear HB; have HB := n0_; clear n0_; (try clear hb); (try clear hb2); (try clear hk); (try clear hi)))
                  first | go_roundg k6 | (try subst hji66; try subst hji97; try subst hji102; try subst hji107; go_roundg k6)
                  case measure => have := HJ9.out; have := HJ39.out; have := HJ115.out; have := HJ150.out; have := HK5.out; have := HK6.out; omega
                  case rel => exact ⟨(wrap64 (x81_6 + 1)), (by first | rfl | (simp; done) | (simp [*]; done)), H', ⟨by have := HJ9.out; have := HJ39.out; have := HJ115.out; have := HJ150.out; have := HK5.out; have := HK6.out; omega⟩, ⟨by repeat (first | (with_reducible first | exact HB.out | apply below_alloc | apply pw_below_drewN | apply below_drew1) | exact HB.out)⟩⟩
                 ·as_aux_lemma =>
                  rw [if_neg c171] at H
                  have c171b0 : decide (x81_6 < (rd l8 x517_5)) = false := decide_eq_false c171
                  clear c171
                  have H' := Aside0.mk H
                  clear H
                  as_aux_lemma =>
                  go_wp2
                  first | go_roundg k6 | (try subst hji66; try subst hji97; try subst hji102; try subst hji107; go_roundg k6)
                  case measure => have := HJ9.out; have := HJ39.out; have := HJ115.out; have := HJ150.out; have := HK5.out; have := HK6.out; omega
                  case rel => exact ⟨(wrap64 (x76_5 + (rd l8 x517_5))), (wrap64 (x517_5 + 1)), (by first | rfl | (simp; done) | (simp [*]; done)), (by first | rfl | (simp; done) | (simp [*]; done)), H', ⟨by have := HJ9.out; have := HJ39.out; have := HJ115.out; have := HJ150.out; have := HK5.out; have := HK6.out; omega⟩, ⟨by repeat (first | (with_reducible first | exact HB.out | apply below_alloc | apply pw_below_drewN | apply below_drew1) | exact HB.out)⟩⟩
              ·as_aux_lemma =>
               rw [if_neg c164] at H
               have c164b0 : decide (x517_5 < (l8.length : Int)) = false := decide_eq_false c164
               clear c164
               obtain rfl := Option.some.inj H
               as_aux_lemma =>
               go_wp2
               go_ret
               exact ⟨by first | rfl | (simp [errW_none, errW_some] <;> rfl) | (simp [*, errW_none, errW_some] <;> rfl), by repeat (first | (with_reducible first | exact HB.out | apply below_alloc | apply pw_below_drewN | apply below_drew1) | exact HB.out)⟩
           ·replace c163 := Bool.eq_false_iff.mpr c163
            subst c163
            have H1 : (some true) = some r := by rw [if_neg (show ¬ (false = true) by decide)] at H; exact H
            clear H
            have H := H1
            clear H1
            obtain rfl := Option.some.inj H
            as_aux_lemma =>
            go_wp2
            go_ret
            exact ⟨by first | rfl | (simp [errW_none, errW_some] <;> rfl) | (simp [*, errW_none, errW_some] <;> rfl), by repeat (first | (with_reducible first | exact HB.out | apply below_alloc | apply pw_below_drewN | apply below_drew1) | exact HB.out)⟩
    ·as_aux_lemma =>
     rw [if_neg c27] at H
     exact absurd H (by simp)

/-- THE ONE PURE STATEMENT of laws_FnStepsAroundOfAll: yours. -/
def laws_FnStepsAroundOfAll.Pure : Prop := ∀ (l0 : List (S45)) (l1 : List (S45)) (a2 : Int) (l3 : List (S45)) (a4 : Int) (l5 : List (S45)) (a6 : Int) (l7 : List (S45)) (l8 : List Int), l0.length ≤ maxLen → l0.length * 16 ≤ 140737488351232 → (∀ x ∈ l0, (Lit.int .i64 x.f0).wf = true ∧ (Lit.int .i64 x.f1).wf = true) → l1.length ≤ maxLen → l1.length * 16 ≤ 140737488351232 → (∀ x ∈ l1, (Lit.int .i64 x.f0).wf = true ∧ (Lit.int .i64 x.f1).wf = true) → (Lit.int .i64 a2).wf = true → l3.length ≤ maxLen → l3.length * 16 ≤ 140737488351232 → (∀ x ∈ l3, (Lit.int .i64 x.f0).wf = true ∧ (Lit.int .i64 x.f1).wf = true) → (Lit.int .i64 a4).wf = true → l5.length ≤ maxLen → l5.length * 16 ≤ 140737488351232 → (∀ x ∈ l5, (Lit.int .i64 x.f0).wf = true ∧ (Lit.int .i64 x.f1).wf = true) → (Lit.int .i64 a6).wf = true → l7.length ≤ maxLen → l7.length * 16 ≤ 140737488351232 → (∀ x ∈ l7, (Lit.int .i64 x.f0).wf = true ∧ (Lit.int .i64 x.f1).wf = true) → l8.length ≤ maxLen → l8.length * 8 ≤ 140737488351232 → (∀ x ∈ l8, (Lit.int .i64 x).wf = true) → ∃ k, laws_FnStepsAroundOfAll.f k l0 l1 a2 l3 a4 l5 a6 l7 l8 = some true
theorem laws_FnStepsAroundOfAll.walk (P : laws_FnStepsAroundOfAll.Pure) (a0 : Option Addr) (len0 cap0 : Nat) (l0 : List (S45)) (a1 : Option Addr) (len1 cap1 : Nat) (l1 : List (S45)) (a2 : Int) (a3 : Option Addr) (len3 cap3 : Nat) (l3 : List (S45)) (a4 : Int) (a5 : Option Addr) (len5 cap5 : Nat) (l5 : List (S45)) (a6 : Int) (a7 : Option Addr) (len7 cap7 : Nat) (l7 : List (S45)) (a8 : Option Addr) (len8 cap8 : Nat) (z8 : List Int) (w : World) (w0 : l0.length = len0 ∧ len0 ≤ cap0 ∧ Kd.C k45 w a0 len0 l0 ∧ (∀ x ∈ l0, (Lit.int .i64 x.f0).wf = true ∧ (Lit.int .i64 x.f1).wf = true)) (y0 : len0 * 16 ≤ 140737488351232) (w1 : l1.length = len1 ∧ len1 ≤ cap1 ∧ Kd.C k45 w a1 len1 l1 ∧ (∀ x ∈ l1, (Lit.int .i64 x.f0).wf = true ∧ (Lit.int .i64 x.f1).wf = true)) (y1 : len1 * 16 ≤ 140737488351232) (w2 : (Lit.int .i64 a2).wf = true) (w3 : l3.length = len3 ∧ len3 ≤ cap3 ∧ Kd.C k45 w a3 len3 l3 ∧ (∀ x ∈ l3, (Lit.int .i64 x.f0).wf = true ∧ (Lit.int .i64 x.f1).wf = true)) (y3 : len3 * 16 ≤ 140737488351232) (w4 : (Lit.int .i64 a4).wf = true) (w5 : l5.length = len5 ∧ len5 ≤ cap5 ∧ Kd.C k45 w a5 len5 l5 ∧ (∀ x ∈ l5, (Lit.int .i64 x.f0).wf = true ∧ (Lit.int .i64 x.f1).wf = true)) (y5 : len5 * 16 ≤ 140737488351232) (w6 : (Lit.int .i64 a6).wf = true) (w7 : l7.length = len7 ∧ len7 ≤ cap7 ∧ Kd.C k45 w a7 len7 l7 ∧ (∀ x ∈ l7, (Lit.int .i64 x.f0).wf = true ∧ (Lit.int .i64 x.f1).wf = true)) (y7 : len7 * 16 ≤ 140737488351232) (w8 : (a8 = none ∧ len8 = 0 ∧ cap8 = 0 ∧ z8 = []) ∨ ∃ x, a8 = some x ∧ len8 ≤ cap8 ∧ cap8 ≤ maxLen ∧ z8.length = cap8 ∧ (∀ i, i < z8.length → w.cell? (x.add i) = some (.int .i64 (z8.getD i 0))) ∧ ∀ n ∈ z8, (Lit.int .i64 n).wf = true) (y8 : len8 * 8 ≤ 140737488351232) :
  Calls Try.prog 6 #[.slice a0 len0 cap0, .slice a1 len1 cap1, .int .i64 a2, .slice a3 len3 cap3, .int .i64 a4, .slice a5 len5 cap5, .int .i64 a6, .slice a7 len7 cap7, .slice a8 len8 cap8] w fun e w' => e = .returned (.bool true) ∧ Below w.heap.size w w' := by
 obtain ⟨rfl, hc0, hr0, hw0⟩ := w0
 have hm0 : l0.length ≤ maxLen := by unfold maxLen; exact Kd.C_max hr0
 obtain ⟨rfl, hc1, hr1, hw1⟩ := w1
 have hm1 : l1.length ≤ maxLen := by unfold maxLen; exact Kd.C_max hr1
 obtain ⟨rfl, hc3, hr3, hw3⟩ := w3
 have hm3 : l3.length ≤ maxLen := by unfold maxLen; exact Kd.C_max hr3
 obtain ⟨rfl, hc5, hr5, hw5⟩ := w5
 have hm5 : l5.length ≤ maxLen := by unfold maxLen; exact Kd.C_max hr5
 obtain ⟨rfl, hc7, hr7, hw7⟩ := w7
 have hm7 : l7.length ≤ maxLen := by unfold maxLen; exact Kd.C_max hr7
 obtain ⟨l8, rfl, hr8, hm8, hw8, hc8⟩ := ReadsInt.ofRowC w8
 obtain ⟨k, h⟩ := P l0 l1 a2 l3 a4 l5 a6 l7 l8 hm0 y0 hw0 hm1 y1 hw1 w2 hm3 y3 hw3 w4 hm5 y5 hw5 w6 hm7 y7 hw7 hm8 y8 hw8
 refine (laws_FnStepsAroundOfAll.calls k _ _ l0 _ _ l1 a2 _ _ l3 a4 _ _ l5 a6 _ _ l7 _ _ l8 true w hr0 hc0 hr1 hc1 hr3 hc3 hr5 hc5 hr7 hc7 (Kd.C_of_reads (d := (0 : Int)) (h1 := fun _ => rfl) hr8) hc8 h).mono ?_
 rintro e w' ⟨rfl, hd⟩
 exact ⟨rfl, hd⟩

end Go.Proofs.Ytdaodlhcedjfoaa.P
