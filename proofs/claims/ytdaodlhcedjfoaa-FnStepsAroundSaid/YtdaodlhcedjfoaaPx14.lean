-- Printed for this claim by a program of this session, out of the translation. Lean checks it.
import Derived.Test.YtdaodlhcedjfoaaPx0
import Derived.Test.YtdaodlhcedjfoaaPx2
import Derived.Test.YtdaodlhcedjfoaaPx4
import Derived.Test.YtdaodlhcedjfoaaPx6
import Derived.Test.YtdaodlhcedjfoaaPx7
import Derived.Test.YtdaodlhcedjfoaaPx8
import Derived.Test.YtdaodlhcedjfoaaPx9
import Derived.Test.YtdaodlhcedjfoaaPx10
import Derived.Test.YtdaodlhcedjfoaaPx11
import Derived.Test.YtdaodlhcedjfoaaPx12
import Derived.Test.YtdaodlhcedjfoaaPx13
-- SLIM
namespace Go.Proofs.Ytdaodlhcedjfoaa.P
open Go.RowKit Go.Proofs.YtdaodlhcedjfoaaW.PrintWords Go.Proofs.YtdaodlhcedjfoaaW.PrintLast Go.Proofs.YtdaodlhcedjfoaaW.PrintMore
attribute [local go_sem] max2_int min2_int max_two min_two max_three min_three max_four min_four   -- for this text's walks alone
set_option linter.unusedVariables false
set_option linter.unusedSimpArgs false

/-! ### laws_FnStepsAround: function 5 -/
mutual
def laws_FnStepsAround.j3 : Nat → List Int → Option (Bool)
 | 0, _ => none
 | k + 1, x1 => (spec_DrawRollWheel.f k x1).bind fun bt620 => ((impl_RollWheel.f k bt620.1 bt620.2).bind fun bt624 => ((spec_RollWheel.f k bt620.1 bt620.2).bind fun bt628 => (if (bt624.2 != bt628.2) = true then (none) else ((laws_gSame.f k bt624.1 bt628.1).bind fun t632 => (if t632 = true then (if bt624.2 = true then ((impl_CountSpokes.f k bt620.1).bind fun bt633 => ((some (([] : List (S45)) : List (S45))).bind fun y635 => (if y635.length + bt620.1.length < 8796093022208 then ((some (y635 ++ bt620.1 : List (S45))).bind fun y638 => (if y638.length < 8796093022208 then ((impl_SpokesOf.f k (y638 ++ [(⟨bt620.2, 0⟩ : S45)])).bind fun bt644 => (if bt633.2 = true then (if (bt624.1.length : Int) = (wrap64 (bt633.1 * (wrap64 (bt620.2 - 1)))) then (if bt644.2 = true then ((laws_gSame.f k bt644.1 bt624.1).bind fun t648 => (if t648 = true then (laws_FnStepsAround.j4 k x1) else (none))) else (none)) else (none)) else (none))) else (none))) else (none)))) else (laws_FnStepsAround.j4 k x1)) else (none))))))
def laws_FnStepsAround.j4 : Nat → List Int → Option (Bool)
 | 0, _ => none
 | k + 1, x1 => (spec_DrawTimesTogether.f k x1).bind fun bt649 => ((impl_TimesTogether.f k bt649.1 bt649.2).bind fun bt653 => ((spec_TimesTogether.f k bt649.1 bt649.2).bind fun bt655 => ((spec_DrawCountStep.f k x1).bind fun bt657 => ((impl_CountStep.f k bt657.1 bt657.2).bind fun bt661 => ((spec_CountStep.f k bt657.1 bt657.2).bind fun bt663 => ((spec_DrawFirstRun.f k x1).bind fun bt665 => ((impl_FirstRun.f k bt665.1 bt665.2).bind fun bt671 => ((spec_FirstRun.f k bt665.1 bt665.2).bind fun bt673 => (if (bt653.2 != bt655.2) = true then (none) else (if bt653.1 = bt655.1 then (if (bt661.2 != bt663.2) = true then (none) else (if bt661.1 = bt663.1 then (if (bt671.2 != bt673.2) = true then (none) else (if bt671.1 = bt673.1 then (if bt653.2 = true then ((impl_CountStep.f k bt649.1 bt649.2).bind fun bt675 => (if bt675.2 = true then (if bt653.1 < bt675.1 then (none) else (laws_FnStepsAround.j5 k bt665.1 bt665.2 bt671.1 bt671.2)) else (none))) else (laws_FnStepsAround.j5 k bt665.1 bt665.2 bt671.1 bt671.2)) else (none))) else (none))) else (none)))))))))))
def laws_FnStepsAround.j5 : Nat → List (S45) → List Int → Int → Bool → Option (Bool)
 | 0, _, _, _, _ => none
 | k + 1, x63, x64, x65, x66 => if x66 = true then (laws_FnStepsAround.l3 k x63 x65 x64 (x64.length : Int) 0) else (some true)
def laws_FnStepsAround.l3 : Nat → List (S45) → Int → List Int → Int → Int → Option (Bool)
 | 0, _, _, _, _, _ => none
 | k + 1, x63, x71, x507, x508, x509 => if x509 < x508 then (if 0 ≤ x509 then (if x509 < (x507.length : Int) then ((impl_IsSpoke.f k x63 (wrap64 (x71 + (rd x507 x509)))).bind fun bt678 => (if bt678.2 = true then (if bt678.1 = true then (laws_FnStepsAround.l4 k x63 x71 (rd x507 x509) 1 x507 x508 x509) else (none)) else (none))) else (none)) else (none)) else (some true)
def laws_FnStepsAround.l4 : Nat → List (S45) → Int → Int → Int → List Int → Int → Int → Option (Bool)
 | 0, _, _, _, _, _, _, _ => none
 | k + 1, x63, x71, x73, x76, x507, x508, x509 => if x76 < x73 then ((impl_IsSpoke.f k x63 (wrap64 (x71 + x76))).bind fun bt680 => (if bt680.2 = true then (if bt680.1 = true then (none) else (laws_FnStepsAround.l4 k x63 x71 x73 (wrap64 (x76 + 1)) x507 x508 x509)) else (none))) else (laws_FnStepsAround.l3 k x63 (wrap64 (x71 + x73)) x507 x508 (wrap64 (x509 + 1)))
def laws_FnStepsAround.l0 : Nat → List Int → List (S45) → Int → Int → List Int → Int → Bool → List Int → Int → Bool → List Int → Bool → Int → Int → List Int → Int → Int → Option (Bool)
 | 0, _, _, _, _, _, _, _, _, _, _, _, _, _, _, _, _, _ => none
 | k + 1, x1, x5, x6, x7, x12, x16, x20, x24, x26, x27, x28, x29, x30, x31, x206, x207, x208 => if x208 < x207 then (if 0 ≤ x208 then (if x208 < (x206.length : Int) then ((impl_CountStep.f k x5 (rd x206 x208)).bind fun bt609 => (if bt609.2 = true then (if bt609.1 < 1 then (none) else ((laws_gHas.f k x24 (rd x206 x208)).bind fun t611 => (if t611 = true then (if x208 > 0 then (if 0 ≤ (wrap64 (x208 - 1)) then (if (wrap64 (x208 - 1)) < (x12.length : Int) then (if (rd x12 (wrap64 (x208 - 1))) ≥ (rd x206 x208) then (none) else (laws_FnStepsAround.l0 k x1 x5 x6 x7 x12 x16 x20 x24 x26 x27 x28 x29 (wrap64 (x30 + bt609.1)) (rd x206 x208) x206 x207 (wrap64 (x208 + 1)))) else (none)) else (none)) else (laws_FnStepsAround.l0 k x1 x5 x6 x7 x12 x16 x20 x24 x26 x27 x28 x29 (wrap64 (x30 + bt609.1)) (rd x206 x208) x206 x207 (wrap64 (x208 + 1)))) else (none)))) else (none))) else (none)) else (none)) else (if x27 = true then (if x16 = 0 then (none) else (if (Int.tmod x26 x16) = 0 then (if x29 = true then (if x30 = (x24.length : Int) then (if x31 = x6 then ((laws_gHas.f k x28 x7).bind fun t613 => (if t613 = true then (if x26 = 0 then (none) else (if (Int.tmod (wrap64 ((x28.length : Int) * x16)) x26) = 0 then (laws_FnStepsAround.l1 k x1 x6 x7 x20 x24 x26 x28 x24 (x24.length : Int) 0) else (none))) else (none))) else (none)) else (none)) else (none)) else (none))) else (none))
def laws_FnStepsAround.l1 : Nat → List Int → Int → Int → Bool → List Int → Int → List Int → List Int → Int → Int → Option (Bool)
 | 0, _, _, _, _, _, _, _, _, _, _ => none
 | k + 1, x1, x6, x7, x20, x24, x26, x28, x287, x288, x289 => if x289 < x288 then (if 0 ≤ x289 then (if x289 < (x287.length : Int) then (if (rd x287 x289) > x6 then (none) else (if (rd x287 x289) = x6 then (if x289 < (x28.length : Int) then (if (rd x28 x289) < x7 then (none) else (laws_FnStepsAround.l1 k x1 x6 x7 x20 x24 x26 x28 x287 x288 (wrap64 (x289 + 1)))) else (none)) else (laws_FnStepsAround.l1 k x1 x6 x7 x20 x24 x26 x28 x287 x288 (wrap64 (x289 + 1))))) else (none)) else (none)) else (if x20 = true then (laws_FnStepsAround.l2 k x1 x24 x26 x28 x24 (x24.length : Int) 0) else (laws_FnStepsAround.j3 k x1))
def laws_FnStepsAround.l2 : Nat → List Int → List Int → Int → List Int → List Int → Int → Int → Option (Bool)
 | 0, _, _, _, _, _, _, _ => none
 | k + 1, x1, x24, x26, x28, x312, x313, x314 => if x314 < x313 then (if 0 ≤ x314 then (if x314 < (x312.length : Int) then (if 0 ≤ (wrap64 ((x28.length : Int) - 1)) then (if (wrap64 ((x28.length : Int) - 1)) < (x28.length : Int) then (if (rd x28 (wrap64 ((x28.length : Int) - 1))) = x26 then (if (x24.length : Int) = 0 then (none) else (if 0 ≤ (Int.tmod (wrap64 ((wrap64 ((wrap64 ((wrap64 ((x24.length : Int) - 2)) - x314)) - 1)) + (wrap64 (3 * (x24.length : Int))))) (x24.length : Int)) then (if (Int.tmod (wrap64 ((wrap64 ((wrap64 ((wrap64 ((x24.length : Int) - 2)) - x314)) - 1)) + (wrap64 (3 * (x24.length : Int))))) (x24.length : Int)) < (x24.length : Int) then (if (rd x24 (Int.tmod (wrap64 ((wrap64 ((wrap64 ((wrap64 ((x24.length : Int) - 2)) - x314)) - 1)) + (wrap64 (3 * (x24.length : Int))))) (x24.length : Int))) = (rd x312 x314) then (laws_FnStepsAround.l2 k x1 x24 x26 x28 x312 x313 (wrap64 (x314 + 1))) else (none)) else (none)) else (none))) else (if (x24.length : Int) = 0 then (none) else (if 0 ≤ (Int.tmod (wrap64 ((wrap64 ((wrap64 ((x24.length : Int) - 2)) - x314)) + (wrap64 (3 * (x24.length : Int))))) (x24.length : Int)) then (if (Int.tmod (wrap64 ((wrap64 ((wrap64 ((x24.length : Int) - 2)) - x314)) + (wrap64 (3 * (x24.length : Int))))) (x24.length : Int)) < (x24.length : Int) then (if (rd x24 (Int.tmod (wrap64 ((wrap64 ((wrap64 ((x24.length : Int) - 2)) - x314)) + (wrap64 (3 * (x24.length : Int))))) (x24.length : Int))) = (rd x312 x314) then (laws_FnStepsAround.l2 k x1 x24 x26 x28 x312 x313 (wrap64 (x314 + 1))) else (none)) else (none)) else (none)))) else (none)) else (none)) else (none)) else (none)) else (laws_FnStepsAround.j3 k x1)
end
def laws_FnStepsAround.f (k : Nat) (l0 : List Int) (l1 : List Int) : Option (Bool) := (laws_big.f l0 l1).bind fun t571 => (if t571 = true then (some true) else ((spec_DrawLongestStep.f k l0).bind fun t572 => ((impl_LongestStep.f k t572).bind fun bt575 => ((spec_LongestStep.f k t572).bind fun bt578 => ((impl_StepSizes.f k t572).bind fun bt581 => ((spec_StepSizes.f k t572).bind fun bt585 => ((impl_LeastPeriod.f k t572).bind fun bt589 => ((spec_LeastPeriod.f k t572).bind fun bt591 => ((impl_IsSymmetric.f k t572).bind fun bt593 => ((spec_IsSymmetric.f k t572).bind fun bt595 => ((impl_StepsOf.f k t572).bind fun bt597 => (if (bt575.2.2 != bt578.2.2) = true then (none) else (if bt575.1 = bt578.1 then (if bt575.2.1 = bt578.2.1 then (if (bt581.2 != bt585.2) = true then (none) else ((laws_gSame.f k bt581.1 bt585.1).bind fun t601 => (if t601 = true then (if (bt589.2 != bt591.2) = true then (none) else (if bt589.1 = bt591.1 then (if (bt593.2 != bt595.2) = true then (none) else (if (bt593.1 != bt595.1) = true then (none) else (if (bt581.2 != bt575.2.2) = true then (none) else (if (bt589.2 != bt575.2.2) = true then (none) else (if (bt593.2 != bt575.2.2) = true then (none) else (if (bt597.2 != bt575.2.2) = true then (none) else (if bt575.2.2 = true then ((impl_PeriodOfRules.f k t572).bind fun bt602 => ((impl_SpokesOf.f k t572).bind fun bt604 => (laws_FnStepsAround.l0 k l1 t572 bt575.1 bt575.2.1 bt581.1 bt589.1 bt593.1 bt597.1 bt602.1 bt602.2 bt604.1 bt604.2 0 0 bt581.1 (bt581.1.length : Int) 0))) else (laws_FnStepsAround.j3 k l1)))))))) else (none))) else (none)))) else (none)) else (none))))))))))))))
theorem laws_FnStepsAround.mono_l : ∀ k, (∀ y0, LeO (laws_FnStepsAround.j3 k y0) (laws_FnStepsAround.j3 (k + 1) y0)) ∧ (∀ y0, LeO (laws_FnStepsAround.j4 k y0) (laws_FnStepsAround.j4 (k + 1) y0)) ∧ (∀ y0 y1 y2 y3, LeO (laws_FnStepsAround.j5 k y0 y1 y2 y3) (laws_FnStepsAround.j5 (k + 1) y0 y1 y2 y3)) ∧ (∀ y0 y1 y2 y3 y4, LeO (laws_FnStepsAround.l3 k y0 y1 y2 y3 y4) (laws_FnStepsAround.l3 (k + 1) y0 y1 y2 y3 y4)) ∧ (∀ y0 y1 y2 y3 y4 y5 y6, LeO (laws_FnStepsAround.l4 k y0 y1 y2 y3 y4 y5 y6) (laws_FnStepsAround.l4 (k + 1) y0 y1 y2 y3 y4 y5 y6)) ∧ (∀ y0 y1 y2 y3 y4 y5 y6 y7 y8 y9 y10 y11 y12 y13 y14 y15 y16, LeO (laws_FnStepsAround.l0 k y0 y1 y2 y3 y4 y5 y6 y7 y8 y9 y10 y11 y12 y13 y14 y15 y16) (laws_FnStepsAround.l0 (k + 1) y0 y1 y2 y3 y4 y5 y6 y7 y8 y9 y10 y11 y12 y13 y14 y15 y16)) ∧ (∀ y0 y1 y2 y3 y4 y5 y6 y7 y8 y9, LeO (laws_FnStepsAround.l1 k y0 y1 y2 y3 y4 y5 y6 y7 y8 y9) (laws_FnStepsAround.l1 (k + 1) y0 y1 y2 y3 y4 y5 y6 y7 y8 y9)) ∧ (∀ y0 y1 y2 y3 y4 y5 y6, LeO (laws_FnStepsAround.l2 k y0 y1 y2 y3 y4 y5 y6) (laws_FnStepsAround.l2 (k + 1) y0 y1 y2 y3 y4 y5 y6))
 | 0 => ⟨fun _ r h => by simp [laws_FnStepsAround.j3] at h, fun _ r h => by simp [laws_FnStepsAround.j4] at h, fun _ _ _ _ r h => by simp [laws_FnStepsAround.j5] at h, fun _ _ _ _ _ r h => by simp [laws_FnStepsAround.l3] at h, fun _ _ _ _ _ _ _ r h => by simp [laws_FnStepsAround.l4] at h, fun _ _ _ _ _ _ _ _ _ _ _ _ _ _ _ _ _ r h => by simp [laws_FnStepsAround.l0] at h, fun _ _ _ _ _ _ _ _ _ _ r h => by simp [laws_FnStepsAround.l1] at h, fun _ _ _ _ _ _ _ r h => by simp [laws_FnStepsAround.l2] at h⟩
 | k + 1 => by
  obtain ⟨ih0, ih1, ih2, ih3, ih4, ih5, ih6, ih7⟩ := laws_FnStepsAround.mono_l k
  refine ⟨?_, ?_, ?_, ?_, ?_, ?_, ?_, ?_⟩
  ·intro y0
   unfold laws_FnStepsAround.j3
   repeat' first | (with_reducible first | apply ih1 | apply impl_CountSpokes.mono | apply impl_RollWheel.mono | apply impl_SpokesOf.mono | apply laws_gSame.mono | apply spec_DrawRollWheel.mono | apply spec_RollWheel.mono | apply LeO.refl | apply LeO.none | refine LeO.ite ?_ ?_ | refine LeO.bind ?_ fun _ => ?_) | refine LeO.ite ?_ ?_ | refine LeO.bind ?_ fun _ => ?_
  ·intro y0
   unfold laws_FnStepsAround.j4
   repeat' first | (with_reducible first | apply ih2 | apply impl_CountStep.mono | apply impl_FirstRun.mono | apply impl_TimesTogether.mono | apply spec_CountStep.mono | apply spec_DrawCountStep.mono | apply spec_DrawFirstRun.mono | apply spec_DrawTimesTogether.mono | apply spec_FirstRun.mono | apply spec_TimesTogether.mono | apply LeO.refl | apply LeO.none | refine LeO.ite ?_ ?_ | refine LeO.bind ?_ fun _ => ?_) | refine LeO.ite ?_ ?_ | refine LeO.bind ?_ fun _ => ?_
  ·intro y0 y1 y2 y3
   unfold laws_FnStepsAround.j5
   repeat' first | (with_reducible first | apply ih3 | apply LeO.refl | apply LeO.none | refine LeO.ite ?_ ?_ | refine LeO.bind ?_ fun _ => ?_) | refine LeO.ite ?_ ?_ | refine LeO.bind ?_ fun _ => ?_
  ·intro y0 y1 y2 y3 y4
   unfold laws_FnStepsAround.l3
   repeat' first | (with_reducible first | apply ih4 | apply impl_IsSpoke.mono | apply LeO.refl | apply LeO.none | refine LeO.ite ?_ ?_ | refine LeO.bind ?_ fun _ => ?_) | refine LeO.ite ?_ ?_ | refine LeO.bind ?_ fun _ => ?_
  ·intro y0 y1 y2 y3 y4 y5 y6
   unfold laws_FnStepsAround.l4
   repeat' first | (with_reducible first | apply ih3 | apply ih4 | apply impl_IsSpoke.mono | apply LeO.refl | apply LeO.none | refine LeO.ite ?_ ?_ | refine LeO.bind ?_ fun _ => ?_) | refine LeO.ite ?_ ?_ | refine LeO.bind ?_ fun _ => ?_
  ·intro y0 y1 y2 y3 y4 y5 y6 y7 y8 y9 y10 y11 y12 y13 y14 y15 y16
   unfold laws_FnStepsAround.l0
   repeat' first | (with_reducible first | apply ih5 | apply ih6 | apply impl_CountStep.mono | apply laws_gHas.mono | apply LeO.refl | apply LeO.none | refine LeO.ite ?_ ?_ | refine LeO.bind ?_ fun _ => ?_) | refine LeO.ite ?_ ?_ | refine LeO.bind ?_ fun _ => ?_
  ·intro y0 y1 y2 y3 y4 y5 y6 y7 y8 y9
   unfold laws_FnStepsAround.l1
   repeat' first | (with_reducible first | apply ih0 | apply ih6 | apply ih7 | apply LeO.refl | apply LeO.none | refine LeO.ite ?_ ?_ | refine LeO.bind ?_ fun _ => ?_) | refine LeO.ite ?_ ?_ | refine LeO.bind ?_ fun _ => ?_
  ·intro y0 y1 y2 y3 y4 y5 y6
   unfold laws_FnStepsAround.l2
   repeat' first | (with_reducible first | apply ih0 | apply ih7 | apply LeO.refl | apply LeO.none | refine LeO.ite ?_ ?_ | refine LeO.bind ?_ fun _ => ?_) | refine LeO.ite ?_ ?_ | refine LeO.bind ?_ fun _ => ?_
theorem laws_FnStepsAround.mono : ∀ a0 a1 k, LeO (laws_FnStepsAround.f k a0 a1) (laws_FnStepsAround.f (k + 1) a0 a1) := by
 intro a0 a1 k
 obtain ⟨ih0, ih1, ih2, ih3, ih4, ih5, ih6, ih7⟩ := laws_FnStepsAround.mono_l k
 unfold laws_FnStepsAround.f
 repeat' first | (with_reducible first | apply ih0 | apply ih5 | apply impl_IsSymmetric.mono | apply impl_LeastPeriod.mono | apply impl_LongestStep.mono | apply impl_PeriodOfRules.mono | apply impl_SpokesOf.mono | apply impl_StepSizes.mono | apply impl_StepsOf.mono | apply laws_gSame.mono | apply spec_DrawLongestStep.mono | apply spec_IsSymmetric.mono | apply spec_LeastPeriod.mono | apply spec_LongestStep.mono | apply spec_StepSizes.mono | apply LeO.refl | apply LeO.none | refine LeO.ite ?_ ?_ | refine LeO.bind ?_ fun _ => ?_) | refine LeO.ite ?_ ?_ | refine LeO.bind ?_ fun _ => ?_
set_option maxHeartbeats 100000000 in
set_option maxRecDepth 100000 in
theorem laws_FnStepsAround.calls (k : Nat) (A0 : Option Addr) (c0 : Nat) (l0 : List Int) (A1 : Option Addr) (c1 : Nat) (l1 : List Int) (r : Bool) (w : World) (hr0 : Kd.C (Kd.int .u8) w A0 l0.length l0) (hc0 : l0.length ≤ c0) (hr1 : Kd.C (Kd.int .u8) w A1 l1.length l1) (hc1 : l1.length ≤ c1) (h : laws_FnStepsAround.f k l0 l1 = some r) :
 Calls Try.prog 5 #[.slice A0 l0.length c0, .slice A1 l1.length c1] w fun e w' => e = .returned (.bool r) ∧ Below w.heap.size w w' := by
 have hu45 := Try.underlying45
 have HR0 := Aside0.mk hr0
 have HC0 := Aside0.mk hc0
 clear hr0 hc0
 have HR1 := Aside0.mk hr1
 have HC1 := Aside0.mk hc1
 clear hr1 hc1
 have HB := Aside0.mk (Below.refl w.heap.size w)
 have H : ((laws_big.f l0 l1).bind fun t571 => (if t571 = true then (some true) else ((spec_DrawLongestStep.f k l0).bind fun t572 => ((impl_LongestStep.f k t572).bind fun bt575 => ((spec_LongestStep.f k t572).bind fun bt578 => ((impl_StepSizes.f k t572).bind fun bt581 => ((spec_StepSizes.f k t572).bind fun bt585 => ((impl_LeastPeriod.f k t572).bind fun bt589 => ((spec_LeastPeriod.f k t572).bind fun bt591 => ((impl_IsSymmetric.f k t572).bind fun bt593 => ((spec_IsSymmetric.f k t572).bind fun bt595 => ((impl_StepsOf.f k t572).bind fun bt597 => (if (bt575.2.2 != bt578.2.2) = true then (none) else (if bt575.1 = bt578.1 then (if bt575.2.1 = bt578.2.1 then (if (bt581.2 != bt585.2) = true then (none) else ((laws_gSame.f k bt581.1 bt585.1).bind fun t601 => (if t601 = true then (if (bt589.2 != bt591.2) = true then (none) else (if bt589.1 = bt591.1 then (if (bt593.2 != bt595.2) = true then (none) else (if (bt593.1 != bt595.1) = true then (none) else (if (bt581.2 != bt575.2.2) = true then (none) else (if (bt589.2 != bt575.2.2) = true then (none) else (if (bt593.2 != bt575.2.2) = true then (none) else (if (bt597.2 != bt575.2.2) = true then (none) else (if bt575.2.2 = true then ((impl_PeriodOfRules.f k t572).bind fun bt602 => ((impl_SpokesOf.f k t572).bind fun bt604 => (laws_FnStepsAround.l0 k l1 t572 bt575.1 bt575.2.1 bt581.1 bt589.1 bt593.1 bt597.1 bt602.1 bt602.2 bt604.1 bt604.2 0 0 bt581.1 (bt581.1.length : Int) 0))) else (laws_FnStepsAround.j3 k l1)))))))) else (none))) else (none)))) else (none)) else (none))))))))))))))) = some r := h
 clear h
 replace H := Option.bind_eq_some_iff.mp H
 obtain ⟨t571, A30, H⟩ := H
 try dsimp only at H
 have A3 := Aside0.mk A30
 clear A30
 by_cases c4 : t571 = true
 ·subst c4
  rw [if_pos rfl] at H
  try dsimp only at H
  obtain rfl := Option.some.inj H
  as_aux_lemma =>
  go_enter Try.func5, Try.ntmps5
  as_aux_lemma =>
  go_wp2_with (first | ((with_reducible refine gate_callee (f := 25) rfl ?_); refine goesL_ (some 81) rfl rfl Try.func25 (by kernel_rfl) rfl #[.slice A0 l0.length c0, .slice A1 l1.length c1] rfl (by simp only [List.map_toArray, List.map_cons, List.map_nil] <;> rfl) ?_; (with_reducible refine (laws_big.calls _ _ l0 _ _ l1 true _ ?side1 ?side2 ?side3 ?side4 A3.out).mono ?_); (case side1 => repeat (first | exact HR0.out | with_reducible first | refine Kd.C_alloc ?_ _ | refine Kd.C_drewN ?_ _ | refine Kd.C_drew ?_)); (case side2 => exact HC0.out); (case side3 => repeat (first | exact HR1.out | with_reducible first | refine Kd.C_alloc ?_ _ | refine Kd.C_drewN ?_ _ | refine Kd.C_drew ?_)); (case side4 => exact HC1.out); rintro e w' ⟨rfl, ⟨nd, rfl⟩⟩; refine ⟨_, rfl, ?_⟩))
  go_ret
  exact ⟨by first | rfl | (simp [errW_none, errW_some] <;> rfl) | (simp [*, errW_none, errW_some] <;> rfl), by repeat (first | exact HB.out | apply below_alloc | apply pw_below_drewN | apply below_drew1)⟩
 ·replace c4 := Bool.eq_false_iff.mpr c4
  subst c4
  rw [if_neg (show ¬ (false = true) by decide)] at H
  try dsimp only at H
  replace H := Option.bind_eq_some_iff.mp H
  obtain ⟨t572, A50, H⟩ := H
  try dsimp only at H
  have A5 := Aside0.mk A50
  clear A50
  replace H := Option.bind_eq_some_iff.mp H
  obtain ⟨⟨t575, t576, t577⟩, A60, H⟩ := H
  try dsimp only at H
  have A6 := Aside0.mk A60
  clear A60
  replace H := Option.bind_eq_some_iff.mp H
  obtain ⟨⟨t578, t579, t580⟩, A70, H⟩ := H
  try dsimp only at H
  have A7 := Aside0.mk A70
  clear A70
  replace H := Option.bind_eq_some_iff.mp H
  obtain ⟨⟨t581, t582⟩, A80, H⟩ := H
  try dsimp only at H
  have A8 := Aside0.mk A80
  clear A80
  replace H := Option.bind_eq_some_iff.mp H
  obtain ⟨⟨t585, t586⟩, A90, H⟩ := H
  try dsimp only at H
  have A9 := Aside0.mk A90
  clear A90
  replace H := Option.bind_eq_some_iff.mp H
  obtain ⟨⟨t589, t590⟩, A100, H⟩ := H
  try dsimp only at H
  have A10 := Aside0.mk A100
  clear A100
  replace H := Option.bind_eq_some_iff.mp H
  obtain ⟨⟨t591, t592⟩, A110, H⟩ := H
  try dsimp only at H
  have A11 := Aside0.mk A110
  clear A110
  replace H := Option.bind_eq_some_iff.mp H
  obtain ⟨⟨t593, t594⟩, A120, H⟩ := H
  try dsimp only at H
  have A12 := Aside0.mk A120
  clear A120
  replace H := Option.bind_eq_some_iff.mp H
  obtain ⟨⟨t595, t596⟩, A130, H⟩ := H
  try dsimp only at H
  have A13 := Aside0.mk A130
  clear A130
  replace H := Option.bind_eq_some_iff.mp H
  obtain ⟨⟨t597, t598⟩, A140, H⟩ := H
  try dsimp only at H
  have A14 := Aside0.mk A140
  clear A140
  have c15 : ¬ ((t577 != t580) = true) := fun c15 => by
   rw [if_pos c15] at H
   exact absurd H (by simp)
  rw [if_neg c15] at H
  have c15b0 : (t577 != t580) = false := by simpa using c15
  (try (have c15b1 : decide (t577 = t580) = true := by simpa using c15))
  (try (have c15b2 : (t577 == t580) = true := by simpa using c15))
  clear c15
  by_cases c16 : t575 = t578
  ·as_aux_lemma =>
   rw [if_pos c16] at H
   have c16b0 : (t575 == t578) = true := beq_iff_eq.mpr c16
   have c16b1 : (t575 != t578) = false := bne_eq_false_iff_eq.mpr c16
   clear c16
   have c17 : t576 = t579 := Classical.byContradiction fun c17 => by
    rw [if_neg c17] at H
    exact absurd H (by simp)
   rw [if_pos c17] at H
   have c17b0 : (t576 == t579) = true := beq_iff_eq.mpr c17
   have c17b1 : (t576 != t579) = false := bne_eq_false_iff_eq.mpr c17
   clear c17
   have c18 : ¬ ((t582 != t586) = true) := fun c18 => by
    rw [if_pos c18] at H
    exact absurd H (by simp)
   rw [if_neg c18] at H
   have c18b0 : (t582 != t586) = false := by simpa using c18
   (try (have c18b1 : decide (t582 = t586) = true := by simpa using c18))
   (try (have c18b2 : (t582 == t586) = true := by simpa using c18))
   clear c18
   replace H := Option.bind_eq_some_iff.mp H
   obtain ⟨t601, A190, H⟩ := H
   try dsimp only at H
   have A19 := Aside0.mk A190
   clear A190
   have c20 : t601 = true := Classical.byContradiction fun c20 => by
    replace c20 := Bool.eq_false_iff.mpr c20
    subst c20
    rw [if_neg (show ¬ (false = true) by decide)] at H
    try dsimp only at H
    exact absurd H (by simp)
   subst c20
   rw [if_pos rfl] at H
   try dsimp only at H
   have c21 : ¬ ((t590 != t592) = true) := fun c21 => by
    rw [if_pos c21] at H
    exact absurd H (by simp)
   rw [if_neg c21] at H
   have c21b0 : (t590 != t592) = false := by simpa using c21
   (try (have c21b1 : decide (t590 = t592) = true := by simpa using c21))
   (try (have c21b2 : (t590 == t592) = true := by simpa using c21))
   clear c21
   have c22 : t589 = t591 := Classical.byContradiction fun c22 => by
    rw [if_neg c22] at H
    exact absurd H (by simp)
   rw [if_pos c22] at H
   have c22b0 : (t589 == t591) = true := beq_iff_eq.mpr c22
   have c22b1 : (t589 != t591) = false := bne_eq_false_iff_eq.mpr c22
   clear c22
   have c23 : ¬ ((t594 != t596) = true) := fun c23 => by
    rw [if_pos c23] at H
    exact absurd H (by simp)
   rw [if_neg c23] at H
   have c23b0 : (t594 != t596) = false := by simpa using c23
   (try (have c23b1 : decide (t594 = t596) = true := by simpa using c23))
   (try (have c23b2 : (t594 == t596) = true := by simpa using c23))
   clear c23
   have c24 : ¬ ((t593 != t595) = true) := fun c24 => by
    rw [if_pos c24] at H
    exact absurd H (by simp)
   rw [if_neg c24] at H
   have c24b0 : (t593 != t595) = false := by simpa using c24
   (try (have c24b1 : decide (t593 = t595) = true := by simpa using c24))
   (try (have c24b2 : (t593 == t595) = true := by simpa using c24))
   clear c24
   have c25 : ¬ ((t582 != t577) = true) := fun c25 => by
    rw [if_pos c25] at H
    exact absurd H (by simp)
   rw [if_neg c25] at H
   have c25b0 : (t582 != t577) = false := by simpa using c25
   (try (have c25b1 : decide (t582 = t577) = true := by simpa using c25))
   (try (have c25b2 : (t582 == t577) = true := by simpa using c25))
   clear c25
   have c26 : ¬ ((t590 != t577) = true) := fun c26 => by
    rw [if_pos c26] at H
    exact absurd H (by simp)
   rw [if_neg c26] at H
   have c26b0 : (t590 != t577) = false := by simpa using c26
   (try (have c26b1 : decide (t590 = t577) = true := by simpa using c26))
   (try (have c26b2 : (t590 == t577) = true := by simpa using c26))
   clear c26
   have c27 : ¬ ((t594 != t577) = true) := fun c27 => by
    rw [if_pos c27] at H
    exact absurd H (by simp)
   rw [if_neg c27] at H
   have c27b0 : (t594 != t577) = false := by simpa using c27
   (try (have c27b1 : decide (t594 = t577) = true := by simpa using c27))
   (try (have c27b2 : (t594 == t577) = true := by simpa using c27))
   clear c27
   have c28 : ¬ ((t598 != t577) = true) := fun c28 => by
    rw [if_pos c28] at H
    exact absurd H (by simp)
   rw [if_neg c28] at H
   have c28b0 : (t598 != t577) = false := by simpa using c28
   (try (have c28b1 : decide (t598 = t577) = true := by simpa using c28))
   (try (have c28b2 : (t598 == t577) = true := by simpa using c28))
   clear c28
   have HC29 := Aside0.mk H
   clear H
   as_aux_lemma =>
   go_enter Try.func5, Try.ntmps5
   as_aux_lemma =>
   go_upto_if 195 with (first | ((with_reducible refine gate_callee (f := 25) rfl ?_); refine goesL_ (some 81) rfl rfl Try.func25 (by kernel_rfl) rfl #[.slice A0 l0.length c0, .slice A1 l1.length c1] rfl (by simp only [List.map_toArray, List.map_cons, List.map_nil] <;> rfl) ?_; (with_reducible refine (laws_big.calls _ _ l0 _ _ l1 false _ ?side1 ?side2 ?side3 ?side4 A3.out).mono ?_); (case side1 => repeat (first | exact HR0.out | with_reducible first | refine Kd.C_alloc ?_ _ | refine Kd.C_drewN ?_ _ | refine Kd.C_drew ?_)); (case side2 => exact HC0.out); (case side3 => repeat (first | exact HR1.out | with_reducible first | refine Kd.C_alloc ?_ _ | refine Kd.C_drewN ?_ _ | refine Kd.C_drew ?_)); (case side4 => exact HC1.out); rintro e w' ⟨rfl, ⟨nd, rfl⟩⟩; refine ⟨_, rfl, ?_⟩) | ((with_reducible refine gate_callee (f := 27) rfl ?_); refine goesL_ (some 83) rfl rfl Try.func27 (by kernel_rfl) rfl #[.slice A0 l0.length c0] rfl (by simp only [List.map_toArray, List.map_cons, List.map_nil] <;> rfl) ?_; (with_reducible refine (spec_DrawLongestStep.calls k _ _ l0 t572 _ ?side1 ?side2 A5.out).mono ?_); (case side1 => repeat (first | exact HR0.out | with_reducible first | refine Kd.C_alloc ?_ _ | refine Kd.C_drewN ?_ _ | refine Kd.C_drew ?_)); (case side2 => exact HC0.out); rintro e w30 ⟨v573, rfl, ho0, hb⟩; refine ⟨_, rfl, ?_⟩; have n0_ := Aside0.mk (Kd.R_lower ho0 (below_size (by repeat first | exact HB.out | apply below_alloc | apply pw_below_drewN | apply below_drew1))); have n1_ := Aside0.mk (below_step (by repeat first | exact HB.out | apply below_alloc | apply pw_below_drewN | apply below_drew1) hb); clear HB; have HO574 := n0_; have HB := n1_; clear n0_ n1_; (try clear hb); (try clear ho0); obtain ⟨Ao31, co31, eo31⟩ := Kd.R_slice HO574.out; subst eo31) | ((with_reducible refine gate_callee (f := 28) rfl ?_); refine goesL_ (some 86) rfl rfl Try.func28 (by kernel_rfl) rfl #[.slice Ao31 t572.length co31] rfl (by simp only [List.map_toArray, List.map_cons, List.map_nil] <;> rfl) ?_; (with_reducible refine (impl_LongestStep.calls k _ _ t572 t575 t576 t577 _ ?side1 ?side2 A6.out).mono ?_); (case side1 => repeat (first | exact (Kd.R_reads' HO574.out).2.2 | with_reducible first | refine Kd.C_alloc ?_ _ | refine Kd.C_drewN ?_ _ | refine Kd.C_drew ?_)); (case side2 => exact (Kd.R_reads' HO574.out).2.1); rintro e w32 ⟨rfl, hb⟩; refine ⟨_, rfl, ?_⟩; have n0_ := Aside0.mk (Kd.R_below (by (with_reducible repeat (first | apply Kd.R_alloc | apply Kd.R_drewN | apply Kd.R_drew)); exact HO574.out) hb); have n1_ := Aside0.mk (below_step (by repeat first | exact HB.out | apply below_alloc | apply pw_below_drewN | apply below_drew1) hb); clear HO574; clear HB; have HO574 := n0_; have HB := n1_; clear n0_ n1_; (try clear hb)) | ((with_reducible refine gate_callee (f := 29) rfl ?_); refine goesL_ (some 92) rfl rfl Try.func29 (by kernel_rfl) rfl #[.slice Ao31 t572.length co31] rfl (by simp only [List.map_toArray, List.map_cons, List.map_nil] <;> rfl) ?_; (with_reducible refine (spec_LongestStep.calls k _ _ t572 t578 t579 t580 _ ?side1 ?side2 A7.out).mono ?_); (case side1 => repeat (first | exact (Kd.R_reads' HO574.out).2.2 | with_reducible first | refine Kd.C_alloc ?_ _ | refine Kd.C_drewN ?_ _ | refine Kd.C_drew ?_)); (case side2 => exact (Kd.R_reads' HO574.out).2.1); rintro e w33 ⟨rfl, hb⟩; refine ⟨_, rfl, ?_⟩; have n0_ := Aside0.mk (Kd.R_below (by (with_reducible repeat (first | apply Kd.R_alloc | apply Kd.R_drewN | apply Kd.R_drew)); exact HO574.out) hb); have n1_ := Aside0.mk (below_step (by repeat first | exact HB.out | apply below_alloc | apply pw_below_drewN | apply below_drew1) hb); clear HO574; clear HB; have HO574 := n0_; have HB := n1_; clear n0_ n1_; (try clear hb)) | ((with_reducible refine gate_callee (f := 30) rfl ?_); refine goesL_ (some 98) rfl rfl Try.func30 (by kernel_rfl) rfl #[.slice Ao31 t572.length co31] rfl (by simp only [List.map_toArray, List.map_cons, List.map_nil] <;> rfl) ?_; (with_reducible refine (impl_StepSizes.calls k _ _ t572 t581 t582 _ ?side1 ?side2 A8.out).mono ?_); (case side1 => repeat (first | exact (Kd.R_reads' HO574.out).2.2 | with_reducible first | refine Kd.C_alloc ?_ _ | refine Kd.C_drewN ?_ _ | refine Kd.C_drew ?_)); (case side2 => exact (Kd.R_reads' HO574.out).2.1); rintro e w34 ⟨v583, rfl, ho0, hb⟩; refine ⟨_, rfl, ?_⟩; have n0_ := Aside0.mk (Kd.R_below (by (with_reducible repeat (first | apply Kd.R_alloc | apply Kd.R_drewN | apply Kd.R_drew)); exact HO574.out) hb); have n1_ := Aside0.mk (Kd.R_lower ho0 (below_size (by repeat first | exact HB.out | apply below_alloc | apply pw_below_drewN | apply below_drew1))); have n2_ := Aside0.mk (below_step (by repeat first | exact HB.out | apply below_alloc | apply pw_below_drewN | apply below_drew1) hb); clear HO574; clear HB; have HO574 := n0_; have HO584 := n1_; have HB := n2_; clear n0_ n1_ n2_; (try clear hb); (try clear ho0)) | ((with_reducible refine gate_callee (f := 31) rfl ?_); refine goesL_ (some 103) rfl rfl Try.func31 (by kernel_rfl) rfl #[.slice Ao31 t572.length co31] rfl (by simp only [List.map_toArray, List.map_cons, List.map_nil] <;> rfl) ?_; (with_reducible refine (spec_StepSizes.calls k _ _ t572 t585 t586 _ ?side1 ?side2 A9.out).mono ?_); (case side1 => repeat (first | exact (Kd.R_reads' HO574.out).2.2 | with_reducible first | refine Kd.C_alloc ?_ _ | refine Kd.C_drewN ?_ _ | refine Kd.C_drew ?_)); (case side2 => exact (Kd.R_reads' HO574.out).2.1); rintro e w35 ⟨v587, rfl, ho0, hb⟩; refine ⟨_, rfl, ?_⟩; have n0_ := Aside0.mk (Kd.R_below (by (with_reducible repeat (first | apply Kd.R_alloc | apply Kd.R_drewN | apply Kd.R_drew)); exact HO574.out) hb); have n1_ := Aside0.mk (Kd.R_elder' (by (with_reducible repeat (first | apply Kd.R_alloc | apply Kd.R_drewN | apply Kd.R_drew)); exact HO584.out) (Kd.R_base ho0) hb); have n2_ := Aside0.mk (Kd.R_lower (Kd.R_new' ho0 (Kd.R_lt (by (with_reducible repeat (first | apply Kd.R_alloc | apply Kd.R_drewN | apply Kd.R_drew)); exact HO584.out))) (below_size (by repeat first | exact HB.out | apply below_alloc | apply pw_below_drewN | apply below_drew1))); have n3_ := Aside0.mk (below_step (by repeat first | exact HB.out | apply below_alloc | apply pw_below_drewN | apply below_drew1) hb); clear HO574; clear HO584; clear HB; have HO574 := n0_; have HO584 := n1_; have HO588 := n2_; have HB := n3_; clear n0_ n1_ n2_ n3_; (try clear hb); (try clear ho0)) | ((with_reducible refine gate_callee (f := 32) rfl ?_); refine goesL_ (some 108) rfl rfl Try.func32 (by kernel_rfl) rfl #[.slice Ao31 t572.length co31] rfl (by simp only [List.map_toArray, List.map_cons, List.map_nil] <;> rfl) ?_; (with_reducible refine (impl_LeastPeriod.calls k _ _ t572 t589 t590 _ ?side1 ?side2 A10.out).mono ?_); (case side1 => repeat (first | exact (Kd.R_reads' HO574.out).2.2 | with_reducible first | refine Kd.C_alloc ?_ _ | refine Kd.C_drewN ?_ _ | refine Kd.C_drew ?_)); (case side2 => exact (Kd.R_reads' HO574.out).2.1); rintro e w36 ⟨rfl, hb⟩; refine ⟨_, rfl, ?_⟩; have n0_ := Aside0.mk (Kd.R_below (by (with_reducible repeat (first | apply Kd.R_alloc | apply Kd.R_drewN | apply Kd.R_drew)); exact HO574.out) hb); have n1_ := Aside0.mk (Kd.R_below (by (with_reducible repeat (first | apply Kd.R_alloc | apply Kd.R_drewN | apply Kd.R_drew)); exact HO584.out) hb); have n2_ := Aside0.mk (Kd.R_below (by (with_reducible repeat (first | apply Kd.R_alloc | apply Kd.R_drewN | apply Kd.R_drew)); exact HO588.out) hb); have n3_ := Aside0.mk (below_step (by repeat first | exact HB.out | apply below_alloc | apply pw_below_drewN | apply below_drew1) hb); clear HO574; clear HO584; clear HO588; clear HB; have HO574 := n0_; have HO584 := n1_; have HO588 := n2_; have HB := n3_; clear n0_ n1_ n2_ n3_; (try clear hb)) | ((with_reducible refine gate_callee (f := 33) rfl ?_); refine goesL_ (some 113) rfl rfl Try.func33 (by kernel_rfl) rfl #[.slice Ao31 t572.length co31] rfl (by simp only [List.map_toArray, List.map_cons, List.map_nil] <;> rfl) ?_; (with_reducible refine (spec_LeastPeriod.calls k _ _ t572 t591 t592 _ ?side1 ?side2 A11.out).mono ?_); (case side1 => repeat (first | exact (Kd.R_reads' HO574.out).2.2 | with_reducible first | refine Kd.C_alloc ?_ _ | refine Kd.C_drewN ?_ _ | refine Kd.C_drew ?_)); (case side2 => exact (Kd.R_reads' HO574.out).2.1); rintro e w37 ⟨rfl, hb⟩; refine ⟨_, rfl, ?_⟩; have n0_ := Aside0.mk (Kd.R_below (by (with_reducible repeat (first | apply Kd.R_alloc | apply Kd.R_drewN | apply Kd.R_drew)); exact HO574.out) hb); have n1_ := Aside0.mk (Kd.R_below (by (with_reducible repeat (first | apply Kd.R_alloc | apply Kd.R_drewN | apply Kd.R_drew)); exact HO584.out) hb); have n2_ := Aside0.mk (Kd.R_below (by (with_reducible repeat (first | apply Kd.R_alloc | apply Kd.R_drewN | apply Kd.R_drew)); exact HO588.out) hb); have n3_ := Aside0.mk (below_step (by repeat first | exact HB.out | apply below_alloc | apply pw_below_drewN | apply below_drew1) hb); clear HO574; clear HO584; clear HO588; clear HB; have HO574 := n0_; have HO584 := n1_; have HO588 := n2_; have HB := n3_; clear n0_ n1_ n2_ n3_; (try clear hb)) | ((with_reducible refine gate_callee (f := 34) rfl ?_); refine goesL_ (some 118) rfl rfl Try.func34 (by kernel_rfl) rfl #[.slice Ao31 t572.length co31] rfl (by simp only [List.map_toArray, List.map_cons, List.map_nil] <;> rfl) ?_; (with_reducible refine (impl_IsSymmetric.calls k _ _ t572 t593 t594 _ ?side1 ?side2 A12.out).mono ?_); (case side1 => repeat (first | exact (Kd.R_reads' HO574.out).2.2 | with_reducible first | refine Kd.C_alloc ?_ _ | refine Kd.C_drewN ?_ _ | refine Kd.C_drew ?_)); (case side2 => exact (Kd.R_reads' HO574.out).2.1); rintro e w38 ⟨rfl, hb⟩; refine ⟨_, rfl, ?_⟩; have n0_ := Aside0.mk (Kd.R_below (by (with_reducible repeat (first | apply Kd.R_alloc | apply Kd.R_drewN | apply Kd.R_drew)); exact HO574.out) hb); have n1_ := Aside0.mk (Kd.R_below (by (with_reducible repeat (first | apply Kd.R_alloc | apply Kd.R_drewN | apply Kd.R_drew)); exact HO584.out) hb); have n2_ := Aside0.mk (Kd.R_below (by (with_reducible repeat (first | apply Kd.R_alloc | apply Kd.R_drewN | apply Kd.R_drew)); exact HO588.out) hb); have n3_ := Aside0.mk (below_step (by repeat first | exact HB.out | apply below_alloc | apply pw_below_drewN | apply below_drew1) hb); clear HO574; clear HO584; clear HO588; clear HB; have HO574 := n0_; have HO584 := n1_; have HO588 := n2_; have HB := n3_; clear n0_ n1_ n2_ n3_; (try clear hb)) | ((with_reducible refine gate_callee (f := 35) rfl ?_); refine goesL_ (some 123) rfl rfl Try.func35 (by kernel_rfl) rfl #[.slice Ao31 t572.length co31] rfl (by simp only [List.map_toArray, List.map_cons, List.map_nil] <;> rfl) ?_; (with_reducible refine (spec_IsSymmetric.calls k _ _ t572 t595 t596 _ ?side1 ?side2 A13.out).mono ?_); (case side1 => repeat (first | exact (Kd.R_reads' HO574.out).2.2 | with_reducible first | refine Kd.C_alloc ?_ _ | refine Kd.C_drewN ?_ _ | refine Kd.C_drew ?_)); (case side2 => exact (Kd.R_reads' HO574.out).2.1); rintro e w39 ⟨rfl, hb⟩; refine ⟨_, rfl, ?_⟩; have n0_ := Aside0.mk (Kd.R_below (by (with_reducible repeat (first | apply Kd.R_alloc | apply Kd.R_drewN | apply Kd.R_drew)); exact HO574.out) hb); have n1_ := Aside0.mk (Kd.R_below (by (with_reducible repeat (first | apply Kd.R_alloc | apply Kd.R_drewN | apply Kd.R_drew)); exact HO584.out) hb); have n2_ := Aside0.mk (Kd.R_below (by (with_reducible repeat (first | apply Kd.R_alloc | apply Kd.R_drewN | apply Kd.R_drew)); exact HO588.out) hb); have n3_ := Aside0.mk (below_step (by repeat first | exact HB.out | apply below_alloc | apply pw_below_drewN | apply below_drew1) hb); clear HO574; clear HO584; clear HO588; clear HB; have HO574 := n0_; have HO584 := n1_; have HO588 := n2_; have HB := n3_; clear n0_ n1_ n2_ n3_; (try clear hb)) | ((with_reducible refine gate_callee (f := 17) rfl ?_); refine goesL_ (some 128) rfl rfl Try.func17 (by kernel_rfl) rfl #[.slice Ao31 t572.length co31] rfl (by simp only [List.map_toArray, List.map_cons, List.map_nil] <;> rfl) ?_; (with_reducible refine (impl_StepsOf.calls k _ _ t572 t597 t598 _ ?side1 ?side2 A14.out).mono ?_); (case side1 => repeat (first | exact (Kd.R_reads' HO574.out).2.2 | with_reducible first | refine Kd.C_alloc ?_ _ | refine Kd.C_drewN ?_ _ | refine Kd.C_drew ?_)); (case side2 => exact (Kd.R_reads' HO574.out).2.1); rintro e w40 ⟨v599, rfl, ho0, hb⟩; refine ⟨_, rfl, ?_⟩; have n0_ := Aside0.mk (Kd.R_below (by (with_reducible repeat (first | apply Kd.R_alloc | apply Kd.R_drewN | apply Kd.R_drew)); exact HO574.out) hb); have n1_ := Aside0.mk (Kd.R_elder' (by (with_reducible repeat (first | apply Kd.R_alloc | apply Kd.R_drewN | apply Kd.R_drew)); exact HO584.out) (Kd.R_base ho0) hb); have n2_ := Aside0.mk (Kd.R_elder' (by (with_reducible repeat (first | apply Kd.R_alloc | apply Kd.R_drewN | apply Kd.R_drew)); exact HO588.out) (Kd.R_base ho0) hb); have n3_ := Aside0.mk (Kd.R_lower (Kd.R_new' (Kd.R_new' ho0 (Kd.R_lt (by (with_reducible repeat (first | apply Kd.R_alloc | apply Kd.R_drewN | apply Kd.R_drew)); exact HO584.out))) (Kd.R_lt (by (with_reducible repeat (first | apply Kd.R_alloc | apply Kd.R_drewN | apply Kd.R_drew)); exact HO588.out))) (below_size (by repeat first | exact HB.out | apply below_alloc | apply pw_below_drewN | apply below_drew1))); have n4_ := Aside0.mk (below_step (by repeat first | exact HB.out | apply below_alloc | apply pw_below_drewN | apply below_drew1) hb); clear HO574; clear HO584; clear HO588; clear HB; have HO574 := n0_; have HO584 := n1_; have HO588 := n2_; have HO600 := n3_; have HB := n4_; clear n0_ n1_ n2_ n3_ n4_; (try clear hb); (try clear ho0); obtain ⟨Ao41, co41, eo41⟩ := Kd.R_slice HO584.out; subst eo41; obtain ⟨Ao42, co42, eo42⟩ := Kd.R_slice HO588.out; subst eo42))
   as_aux_lemma =>
   go_upto_if 195 with (first | (go_at_call 21; (with_reducible refine (laws_gSame.calls k _ _ t581 _ _ t585 true _ ?side1 ?side2 ?side3 ?side4 A19.out).mono ?_); (case side1 => repeat (first | exact (Kd.R_reads' HO584.out).2.2 | with_reducible first | refine Kd.C_alloc ?_ _ | refine Kd.C_drewN ?_ _ | refine Kd.C_drew ?_)); (case side2 => exact (Kd.R_reads' HO584.out).2.1); (case side3 => repeat (first | exact (Kd.R_reads' HO588.out).2.2 | with_reducible first | refine Kd.C_alloc ?_ _ | refine Kd.C_drewN ?_ _ | refine Kd.C_drew ?_)); (case side4 => exact (Kd.R_reads' HO588.out).2.1); rintro e w' ⟨rfl, ⟨nd, rfl⟩⟩))
   (try simp only [Act.put, List.setIfInBounds_toArray, List.set_cons_zero, List.set_cons_succ])
   go_cut [] from 9999 to 9999 (fun wc => ∃ (kq : Nat), Aside0 (laws_FnStepsAround.j3 kq l1 = some r) ∧ Aside0 (kq ≤ k) ∧ Aside0 (Below w.heap.size w wc))
   case first =>
    as_aux_lemma =>
    have H := HC29.out
    clear HC29
    by_cases c43 : t577 = true
    ·subst c43
     rw [if_pos rfl] at H
     try dsimp only at H
     replace H := Option.bind_eq_some_iff.mp H
     obtain ⟨⟨t602, t603⟩, A440, H⟩ := H
     try dsimp only at H
     have A44 := Aside0.mk A440
     clear A440
     replace H := Option.bind_eq_some_iff.mp H
     obtain ⟨⟨t604, t605⟩, A450, H⟩ := H
     try dsimp only at H
     have A45 := Aside0.mk A450
     clear A450
     have H' := Aside0.mk H
     clear H
     as_aux_lemma =>
     go_wp2_with (first | ((with_reducible refine gate_callee (f := 22) rfl ?_); refine goesL_ (some 198) rfl rfl Try.func22 (by kernel_rfl) rfl #[.slice Ao31 t572.length co31] rfl (by simp only [List.map_toArray, List.map_cons, List.map_nil] <;> rfl) ?_; (with_reducible refine (impl_PeriodOfRules.calls k _ _ t572 t602 t603 _ ?side1 ?side2 A44.out).mono ?_); (case side1 => repeat (first | exact (Kd.R_reads' HO574.out).2.2 | with_reducible first | refine Kd.C_alloc ?_ _ | refine Kd.C_drewN ?_ _ | refine Kd.C_drew ?_)); (case side2 => exact (Kd.R_reads' HO574.out).2.1); rintro e w46 ⟨rfl, hb⟩; refine ⟨_, rfl, ?_⟩; have n0_ := Aside0.mk (Kd.R_below (by (with_reducible repeat (first | apply Kd.R_alloc | apply Kd.R_drewN | apply Kd.R_drew)); exact HO574.out) hb); have n1_ := Aside0.mk (Kd.R_below (by (with_reducible repeat (first | apply Kd.R_alloc | apply Kd.R_drewN | apply Kd.R_drew)); exact HO584.out) hb); have n2_ := Aside0.mk (Kd.R_below (by (with_reducible repeat (first | apply Kd.R_alloc | apply Kd.R_drewN | apply Kd.R_drew)); exact HO588.out) hb); have n3_ := Aside0.mk (Kd.R_below (by (with_reducible repeat (first | apply Kd.R_alloc | apply Kd.R_drewN | apply Kd.R_drew)); exact HO600.out) hb); have n4_ := Aside0.mk (below_step (by repeat first | exact HB.out | apply below_alloc | apply pw_below_drewN | apply below_drew1) hb); clear HO574; clear HO584; clear HO588; clear HO600; clear HB; have HO574 := n0_; have HO584 := n1_; have HO588 := n2_; have HO600 := n3_; have HB := n4_; clear n0_ n1_ n2_ n3_ n4_; (try clear hb)) | ((with_reducible refine gate_callee (f := 15) rfl ?_); refine goesL_ (some 203) rfl rfl Try.func15 (by kernel_rfl) rfl #[.slice Ao31 t572.length co31] rfl (by simp only [List.map_toArray, List.map_cons, List.map_nil] <;> rfl) ?_; (with_reducible refine (impl_SpokesOf.calls k _ _ t572 t604 t605 _ ?side1 ?side2 A45.out).mono ?_); (case side1 => repeat (first | exact (Kd.R_reads' HO574.out).2.2 | with_reducible first | refine Kd.C_alloc ?_ _ | refine Kd.C_drewN ?_ _ | refine Kd.C_drew ?_)); (case side2 => exact (Kd.R_reads' HO574.out).2.1); rintro e w47 ⟨v606, rfl, ho0, hb⟩; refine ⟨_, rfl, ?_⟩; have n0_ := Aside0.mk (Kd.R_below (by (with_reducible repeat (first | apply Kd.R_alloc | apply Kd.R_drewN | apply Kd.R_drew)); exact HO574.out) hb); have n1_ := Aside0.mk (Kd.R_elder' (by (with_reducible repeat (first | apply Kd.R_alloc | apply Kd.R_drewN | apply Kd.R_drew)); exact HO584.out) (Kd.R_base ho0) hb); have n2_ := Aside0.mk (Kd.R_elder' (by (with_reducible repeat (first | apply Kd.R_alloc | apply Kd.R_drewN | apply Kd.R_drew)); exact HO588.out) (Kd.R_base ho0) hb); have n3_ := Aside0.mk (Kd.R_elder' (by (with_reducible repeat (first | apply Kd.R_alloc | apply Kd.R_drewN | apply Kd.R_drew)); exact HO600.out) (Kd.R_base ho0) hb); have n4_ := Aside0.mk (Kd.R_lower (Kd.R_new' (Kd.R_new' (Kd.R_new' ho0 (Kd.R_lt (by (with_reducible repeat (first | apply Kd.R_alloc | apply Kd.R_drewN | apply Kd.R_drew)); exact HO584.out))) (Kd.R_lt (by (with_reducible repeat (first | apply Kd.R_alloc | apply Kd.R_drewN | apply Kd.R_drew)); exact HO588.out))) (Kd.R_lt (by (with_reducible repeat (first | apply Kd.R_alloc | apply Kd.R_drewN | apply Kd.R_drew)); exact HO600.out))) (below_size (by repeat first | exact HB.out | apply below_alloc | apply pw_below_drewN | apply below_drew1))); have n5_ := Aside0.mk (below_step (by repeat first | exact HB.out | apply below_alloc | apply pw_below_drewN | apply below_drew1) hb); clear HO574; clear HO584; clear HO588; clear HO600; clear HB; have HO574 := n0_; have HO584 := n1_; have HO588 := n2_; have HO600 := n3_; have HO607 := n4_; have HB := n5_; clear n0_ n1_ n2_ n3_ n4_ n5_; (try clear hb); (try clear ho0)))
     as_aux_lemma =>
     go_loopg [30, 31, 208] k (fun kq v30 v31 v208 w' => ∃ (x30_1 : Int) (x31_1 : Int) (x208_1 : Int), v30 = .int .i64 x30_1 ∧ v31 = .int .i64 x31_1 ∧ v208 = .int .i64 x208_1 ∧ Aside0 (laws_FnStepsAround.l0 kq l1 t572 t575 t576 t581 t589 t593 t597 t602 t603 t604 t605 x30_1 x31_1 t581 (t581.length : Int) x208_1 = some r) ∧ Aside0 (kq ≤ k) ∧ Aside0 (Kd.R k45 45 w' w.heap.size (fun _ => True) (.slice Ao31 t572.length co31) t572) ∧ Aside0 (Kd.R (Kd.int .i64) 3 w' w.heap.size (fun k_ => some k_ ≠ (v599 : Value).ownBlock ∧ some k_ ≠ (v606 : Value).ownBlock) (.slice Ao41 t581.length co41) t581) ∧ Aside0 (Kd.R (Kd.int .i64) 3 w' w.heap.size (fun k_ => some k_ ≠ ((.slice Ao41 t581.length co41) : Value).ownBlock ∧ some k_ ≠ (v606 : Value).ownBlock ∧ some k_ ≠ ((.slice Ao41 t581.length co41) : Value).ownBlock) v599 t597) ∧ Aside0 (Kd.R (Kd.int .i64) 3 w' w.heap.size (fun k_ => some k_ ≠ ((.slice Ao41 t581.length co41) : Value).ownBlock ∧ some k_ ≠ (v599 : Value).ownBlock ∧ some k_ ≠ ((.slice Ao41 t581.length co41) : Value).ownBlock) v606 t604) ∧ Aside0 (Kd.R (Kd.int .i64) 3 w' w.heap.size (fun k_ => some k_ ≠ (v599 : Value).ownBlock ∧ some k_ ≠ (v606 : Value).ownBlock) (.slice Ao41 t581.length co41) t581) ∧ Aside0 (Below w.heap.size w w'))
     case atStart => exact ⟨(0), (0), (0), (by first | rfl | (simp; done) | (simp [*]; done)), (by first | rfl | (simp; done) | (simp [*]; done)), (by first | rfl | (simp; done) | (simp [*]; done)), H', ⟨Nat.le_refl _⟩, ⟨by (with_reducible repeat (first | apply Kd.R_alloc | apply Kd.R_drewN | apply Kd.R_drew)); exact HO574.out⟩, ⟨by (with_reducible repeat (first | apply Kd.R_alloc | apply Kd.R_drewN | apply Kd.R_drew)); exact Kd.R_mono HO584.out (fun _ hk => ⟨hk.1.2, hk.2⟩)⟩, ⟨by (with_reducible repeat (first | apply Kd.R_alloc | apply Kd.R_drewN | apply Kd.R_drew)); exact Kd.R_mono HO600.out (fun _ hk => ⟨hk.1.1.2, ⟨hk.2, hk.1.1.2⟩⟩)⟩, ⟨by (with_reducible repeat (first | apply Kd.R_alloc | apply Kd.R_drewN | apply Kd.R_drew)); exact Kd.R_mono HO607.out (fun _ hk => ⟨hk.1.1.2, ⟨hk.2, hk.1.1.2⟩⟩)⟩, ⟨by (with_reducible repeat (first | apply Kd.R_alloc | apply Kd.R_drewN | apply Kd.R_drew)); exact Kd.R_mono HO584.out (fun _ hk => ⟨hk.1.2, hk.2⟩)⟩, ⟨by repeat (first | exact HB.out | apply below_alloc | apply pw_below_drewN | apply below_drew1)⟩⟩
     case round =>
      as_aux_lemma =>
      clear H'
      try clear c1
      try clear c4
      try clear c15b0
      try clear c15b1
      try clear c15b2
      try clear c16b0
      try clear c16b1
      try clear c17b0
      try clear c17b1
      try clear c18b0
      try clear c18b1
      try clear c18b2
      try clear c20
      try clear c21b0
      try clear c21b1
      try clear c21b2
      try clear c22b0
      try clear c22b1
      try clear c23b0
      try clear c23b1
      try clear c23b2
      try clear c24b0
      try clear c24b1
      try clear c24b2
      try clear c25b0
      try clear c25b1
      try clear c25b2
      try clear c26b0
      try clear c26b1
      try clear c26b2
      try clear c27b0
      try clear c27b1
      try clear c27b2
      try clear c28b0
      try clear c28b1
      try clear c28b2
      try clear c43
      obtain ⟨x30_1, x31_1, x208_1, rfl, rfl, rfl, HA, HK1, HO_5, HO_12, HO_24, HO_28, HO_206, HB⟩ := hrel
      cases gk with
      | zero => exact absurd HA.out (by simp [laws_FnStepsAround.l0])
      | succ k1 =>
       have H := HA.out
       clear HA
       simp only [laws_FnStepsAround.l0] at H
       by_cases c48 : x208_1 < (t581.length : Int)
       ·as_aux_lemma =>
        rw [if_pos c48] at H
        have c48b0 : decide (x208_1 < (t581.length : Int)) = true := decide_eq_true c48
        clear c48
        (first | rw [c48b0] | (simp only [i64_w, i32_w]; rw [c48b0]) | skip)
        have c49 : 0 ≤ x208_1 := Classical.byContradiction fun c49 => by
         rw [if_neg c49] at H
         exact absurd H (by simp)
        rw [if_pos c49] at H
        have c49b0 : decide (0 ≤ x208_1) = true := decide_eq_true c49
        clear c49
        have c50 : x208_1 < (t581.length : Int) := Classical.byContradiction fun c50 => by
         rw [if_neg c50] at H
         exact absurd H (by simp)
        rw [if_pos c50] at H
        have c50b0 : decide (x208_1 < (t581.length : Int)) = true := decide_eq_true c50
        clear c50
        replace H := Option.bind_eq_some_iff.mp H
        obtain ⟨⟨t609, t610⟩, A510, H⟩ := H
        try dsimp only at H
        have A51 := Aside0.mk A510
        clear A510
        have c52 : t610 = true := Classical.byContradiction fun c52 => by
         replace c52 := Bool.eq_false_iff.mpr c52
         subst c52
         rw [if_neg (show ¬ (false = true) by decide)] at H
         try dsimp only at H
         exact absurd H (by simp)
        subst c52
        rw [if_pos rfl] at H
        try dsimp only at H
        have c53 : ¬ (t609 < 1) := fun c53 => by
         rw [if_pos c53] at H
         exact absurd H (by simp)
        rw [if_neg c53] at H
        have c53b0 : decide (t609 < 1) = false := decide_eq_false c53
        clear c53
        replace H := Option.bind_eq_some_iff.mp H
        obtain ⟨t611, A540, H⟩ := H
        try dsimp only at H
        have A54 := Aside0.mk A540
        clear A540
        have c55 : t611 = true := Classical.byContradiction fun c55 => by
         replace c55 := Bool.eq_false_iff.mpr c55
         subst c55
         rw [if_neg (show ¬ (false = true) by decide)] at H
         try dsimp only at H
         exact absurd H (by simp)
        subst c55
        rw [if_pos rfl] at H
        try dsimp only at H
        by_cases c56 : x208_1 > 0
        ·as_aux_lemma =>
         rw [if_pos c56] at H
         have c56b0 : decide (0 < x208_1) = true := decide_eq_true c56
         clear c56
         obtain ⟨ji57, hji57⟩ : ∃ j_ : Int, (wrap64 (x208_1 - 1)) = j_ := ⟨_, rfl⟩
         replace H : (if 0 ≤ (ji57) then (if (ji57) < (t581.length : Int) then (if (rd t581 (ji57)) ≥ (rd t581 x208_1) then (none) else (laws_FnStepsAround.l0 k1 l1 t572 t575 t576 t581 t589 t593 t597 t602 t603 t604 t605 (wrap64 (x30_1 + t609)) (rd t581 x208_1) t581 (t581.length : Int) (wrap64 (x208_1 + 1)))) else (none)) else (none)) = some r := by first | (rw [hji57] at H; exact H) | (simp only [hji57] at H ⊢; exact H)
         (try rw [hji57] at A51)
         (try rw [hji57] at A54)
         have hji57w : (IntKind.i64.wrap (x208_1 - 1)) = ji57 := (i64_w _).trans hji57
         have c58 : 0 ≤ (ji57) := Classical.byContradiction fun c58 => by
          rw [if_neg c58] at H
          exact absurd H (by simp)
         rw [if_pos c58] at H
         have c58b0 : decide (0 ≤ (ji57)) = true := decide_eq_true c58
         clear c58
         have c59 : (ji57) < (t581.length : Int) := Classical.byContradiction fun c59 => by
          rw [if_neg c59] at H
          exact absurd H (by simp)
         rw [if_pos c59] at H
         have c59b0 : decide ((ji57) < (t581.length : Int)) = true := decide_eq_true c59
         clear c59
         have c60 : ¬ ((rd t581 (ji57)) ≥ (rd t581 x208_1)) := fun c60 => by
          rw [if_pos c60] at H
          exact absurd H (by simp)
         rw [if_neg c60] at H
         have c60b0 : decide ((rd t581 x208_1) ≤ (rd t581 (ji57))) = false := decide_eq_false c60
         clear c60
         have H' := Aside0.mk H
         clear H
         have p608 : 0 ≤ (x208_1 : Int) := of_decide_eq_true (by first | (with_reducible assumption) | assumption)
         have q608 : x208_1 < (t581.length : Int) := of_decide_eq_true (by first | (with_reducible assumption) | assumption)
         obtain ⟨ad608, e608, hx608_0⟩ := Kd.at_int (Kd.R_reads' HO_206.out).2.2 x208_1 p608 q608
         cases e608
         replace p608 := eq_true p608
         replace q608 := eq_true q608
         as_aux_lemma =>
         go_wp2_with (first | ((with_reducible refine gate_callee (f := 36) rfl ?_); refine goesL_ (some 216) rfl rfl Try.func36 (by kernel_rfl) rfl #[.slice Ao31 t572.length co31, .int .i64 (rd t581 x208_1)] rfl (by simp only [List.map_toArray, List.map_cons, List.map_nil] <;> rfl) ?_; (with_reducible refine (impl_CountStep.calls k1 _ _ t572 (rd t581 x208_1) t609 true _ ?side1 ?side2 A51.out).mono ?_); (case side1 => repeat (first | exact (Kd.R_reads' HO_5.out).2.2 | with_reducible first | refine Kd.C_alloc ?_ _ | refine Kd.C_drewN ?_ _ | refine Kd.C_drew ?_)); (case side2 => exact (Kd.R_reads' HO_5.out).2.1); rintro e w61 ⟨rfl, hb⟩; refine ⟨_, rfl, ?_⟩; have n0_ := Aside0.mk (Kd.R_below (by (with_reducible repeat (first | apply Kd.R_alloc | apply Kd.R_drewN | apply Kd.R_drew)); exact HO_5.out) hb); have n1_ := Aside0.mk (Kd.R_below (by (with_reducible repeat (first | apply Kd.R_alloc | apply Kd.R_drewN | apply Kd.R_drew)); exact HO_12.out) hb); have n2_ := Aside0.mk (Kd.R_below (by (with_reducible repeat (first | apply Kd.R_alloc | apply Kd.R_drewN | apply Kd.R_drew)); exact HO_24.out) hb); have n3_ := Aside0.mk (Kd.R_below (by (with_reducible repeat (first | apply Kd.R_alloc | apply Kd.R_drewN | apply Kd.R_drew)); exact HO_28.out) hb); have n4_ := Aside0.mk (Kd.R_below (by (with_reducible repeat (first | apply Kd.R_alloc | apply Kd.R_drewN | apply Kd.R_drew)); exact HO_206.out) hb); have n5_ := Aside0.mk (below_step (by repeat first | exact HB.out | apply below_alloc | apply pw_below_drewN | apply below_drew1) hb); clear HO_5; clear HO_12; clear HO_24; clear HO_28; clear HO_206; clear HB; have HO_5 := n0_; have HO_12 := n1_; have HO_24 := n2_; have HO_28 := n3_; have HO_206 := n4_; have HB := n5_; clear n0_ n1_ n2_ n3_ n4_ n5_; (try clear hb); obtain ⟨Ao62, co62, eo62⟩ := Kd.R_slice HO_24.out; subst eo62))
         as_aux_lemma =>
         go_wp2_with (first | (go_at_call 37; (with_reducible refine (laws_gHas.calls k1 _ _ t597 (rd t581 x208_1) true _ ?side1 ?side2 A54.out).mono ?_); (case side1 => repeat (first | exact (Kd.R_reads' HO_24.out).2.2 | with_reducible first | refine Kd.C_alloc ?_ _ | refine Kd.C_drewN ?_ _ | refine Kd.C_drew ?_)); (case side2 => exact (Kd.R_reads' HO_24.out).2.1); rintro e w' ⟨rfl, ⟨nd, rfl⟩⟩; have p612 : 0 ≤ ((ji57) : Int) := of_decide_eq_true (by first | (with_reducible assumption) | assumption); have q612 : (ji57) < (t581.length : Int) := of_decide_eq_true (by first | (with_reducible assumption) | assumption); obtain ⟨ad612, e612, hx612_0⟩ := Kd.at_int (Kd.R_reads' HO_12.out).2.2 (ji57) p612 q612; obtain rfl : ad608 = ad612 := (by injection e612); replace p612 := eq_true p612; replace q612 := eq_true q612))
         first | go_roundg k1 | (try subst hji57; go_roundg k1)
         case measure => have := HK1.out; omega
         case rel => exact ⟨(wrap64 (x30_1 + t609)), (rd t581 x208_1), (wrap64 (x208_1 + 1)), (by first | rfl | (simp; done) | (simp [*]; done)), (by first | rfl | (simp; done) | (simp [*]; done)), (by first | rfl | (simp; done) | (simp [*]; done)), H', ⟨by have := HK1.out; omega⟩, ⟨by (with_reducible repeat (first | apply Kd.R_alloc | apply Kd.R_drewN | apply Kd.R_drew)); exact HO_5.out⟩, ⟨by (with_reducible repeat (first | apply Kd.R_alloc | apply Kd.R_drewN | apply Kd.R_drew)); exact HO_12.out⟩, ⟨by (with_reducible repeat (first | apply Kd.R_alloc | apply Kd.R_drewN | apply Kd.R_drew)); exact HO_24.out⟩, ⟨by (with_reducible repeat (first | apply Kd.R_alloc | apply Kd.R_drewN | apply Kd.R_drew)); exact HO_28.out⟩, ⟨by (with_reducible repeat (first | apply Kd.R_alloc | apply Kd.R_drewN | apply Kd.R_drew)); exact HO_206.out⟩, ⟨by repeat (first | exact HB.out | apply below_alloc | apply pw_below_drewN | apply below_drew1)⟩⟩
        ·as_aux_lemma =>
         rw [if_neg c56] at H
         have c56b0 : decide (0 < x208_1) = false := decide_eq_false c56
         clear c56
         have H' := Aside0.mk H
         clear H
         have p608 : 0 ≤ (x208_1 : Int) := of_decide_eq_true (by first | (with_reducible assumption) | assumption)
         have q608 : x208_1 < (t581.length : Int) := of_decide_eq_true (by first | (with_reducible assumption) | assumption)
         obtain ⟨ad608, e608, hx608_0⟩ := Kd.at_int (Kd.R_reads' HO_206.out).2.2 x208_1 p608 q608
         cases e608
         replace p608 := eq_true p608
         replace q608 := eq_true q608
         as_aux_lemma =>
         go_wp2_with (first | ((with_reducible refine gate_callee (f := 36) rfl ?_); refine goesL_ (some 216) rfl rfl Try.func36 (by kernel_rfl) rfl #[.slice Ao31 t572.length co31, .int .i64 (rd t581 x208_1)] rfl (by simp only [List.map_toArray, List.map_cons, List.map_nil] <;> rfl) ?_; (with_reducible refine (impl_CountStep.calls k1 _ _ t572 (rd t581 x208_1) t609 true _ ?side1 ?side2 A51.out).mono ?_); (case side1 => repeat (first | exact (Kd.R_reads' HO_5.out).2.2 | with_reducible first | refine Kd.C_alloc ?_ _ | refine Kd.C_drewN ?_ _ | refine Kd.C_drew ?_)); (case side2 => exact (Kd.R_reads' HO_5.out).2.1); rintro e w63 ⟨rfl, hb⟩; refine ⟨_, rfl, ?_⟩; have n0_ := Aside0.mk (Kd.R_below (by (with_reducible repeat (first | apply Kd.R_alloc | apply Kd.R_drewN | apply Kd.R_drew)); exact HO_5.out) hb); have n1_ := Aside0.mk (Kd.R_below (by (with_reducible repeat (first | apply Kd.R_alloc | apply Kd.R_drewN | apply Kd.R_drew)); exact HO_12.out) hb); have n2_ := Aside0.mk (Kd.R_below (by (with_reducible repeat (first | apply Kd.R_alloc | apply Kd.R_drewN | apply Kd.R_drew)); exact HO_24.out) hb); have n3_ := Aside0.mk (Kd.R_below (by (with_reducible repeat (first | apply Kd.R_alloc | apply Kd.R_drewN | apply Kd.R_drew)); exact HO_28.out) hb); have n4_ := Aside0.mk (Kd.R_below (by (with_reducible repeat (first | apply Kd.R_alloc | apply Kd.R_drewN | apply Kd.R_drew)); exact HO_206.out) hb); have n5_ := Aside0.mk (below_step (by repeat first | exact HB.out | apply below_alloc | apply pw_below_drewN | apply below_drew1) hb); clear HO_5; clear HO_12; clear HO_24; clear HO_28; clear HO_206; clear HB; have HO_5 := n0_; have HO_12 := n1_; have HO_24 := n2_; have HO_28 := n3_; have HO_206 := n4_; have HB := n5_; clear n0_ n1_ n2_ n3_ n4_ n5_; (try clear hb); obtain ⟨Ao64, co64, eo64⟩ := Kd.R_slice HO_24.out; subst eo64))
         as_aux_lemma =>
         go_wp2_with (first | (go_at_call 37; (with_reducible refine (laws_gHas.calls k1 _ _ t597 (rd t581 x208_1) true _ ?side1 ?side2 A54.out).mono ?_); (case side1 => repeat (first | exact (Kd.R_reads' HO_24.out).2.2 | with_reducible first | refine Kd.C_alloc ?_ _ | refine Kd.C_drewN ?_ _ | refine Kd.C_drew ?_)); (case side2 => exact (Kd.R_reads' HO_24.out).2.1); rintro e w' ⟨rfl, ⟨nd, rfl⟩⟩))
         first | go_roundg k1 | (try subst hji57; go_roundg k1)
         case measure => have := HK1.out; omega
         case rel => exact ⟨(wrap64 (x30_1 + t609)), (rd t581 x208_1), (wrap64 (x208_1 + 1)), (by first | rfl | (simp; done) | (simp [*]; done)), (by first | rfl | (simp; done) | (simp [*]; done)), (by first | rfl | (simp; done) | (simp [*]; done)), H', ⟨by have := HK1.out; omega⟩, ⟨by (with_reducible repeat (first | apply Kd.R_alloc | apply Kd.R_drewN | apply Kd.R_drew)); exact HO_5.out⟩, ⟨by (with_reducible repeat (first | apply Kd.R_alloc | apply Kd.R_drewN | apply Kd.R_drew)); exact HO_12.out⟩, ⟨by (with_reducible repeat (first | apply Kd.R_alloc | apply Kd.R_drewN | apply Kd.R_drew)); exact HO_24.out⟩, ⟨by (with_reducible repeat (first | apply Kd.R_alloc | apply Kd.R_drewN | apply Kd.R_drew)); exact HO_28.out⟩, ⟨by (with_reducible repeat (first | apply Kd.R_alloc | apply Kd.R_drewN | apply Kd.R_drew)); exact HO_206.out⟩, ⟨by repeat (first | exact HB.out | apply below_alloc | apply pw_below_drewN | apply below_drew1)⟩⟩
       ·as_aux_lemma =>
        rw [if_neg c48] at H
        have c48b0 : decide (x208_1 < (t581.length : Int)) = false := decide_eq_false c48
        clear c48
        (first | rw [c48b0] | (simp only [i64_w, i32_w]; rw [c48b0]) | skip)
        have c65 : t603 = true := Classical.byContradiction fun c65 => by
         replace c65 := Bool.eq_false_iff.mpr c65
         subst c65
         rw [if_neg (show ¬ (false = true) by decide)] at H
         try dsimp only at H
         exact absurd H (by simp)
        subst c65
        rw [if_pos rfl] at H
        try dsimp only at H
        have c66 : ¬ (t589 = 0) := fun c66 => by
         rw [if_pos c66] at H
         exact absurd H (by simp)
        rw [if_neg c66] at H
        have c66b0 : (t589 == 0) = false := beq_eq_false_iff_ne.mpr c66
        have c66b1 : (t589 != 0) = true := bne_iff_ne.mpr c66
        have c67 : (Int.tmod t602 t589) = 0 := Classical.byContradiction fun c67 => by
         rw [if_neg c67] at H
         exact absurd H (by simp)
        rw [if_pos c67] at H
        have c67b0 : ((Int.tmod t602 t589) == 0) = true := beq_iff_eq.mpr c67
        have c67b1 : ((Int.tmod t602 t589) != 0) = false := bne_eq_false_iff_eq.mpr c67
        clear c67
        have c68 : t605 = true := Classical.byContradiction fun c68 => by
         replace c68 := Bool.eq_false_iff.mpr c68
         subst c68
         rw [if_neg (show ¬ (false = true) by decide)] at H
         try dsimp only at H
         exact absurd H (by simp)
        subst c68
        rw [if_pos rfl] at H
        try dsimp only at H
        have c69 : x30_1 = (t597.length : Int) := Classical.byContradiction fun c69 => by
         rw [if_neg c69] at H
         exact absurd H (by simp)
        rw [if_pos c69] at H
        have c69b0 : (x30_1 == (t597.length : Int)) = true := beq_iff_eq.mpr c69
        have c69b1 : (x30_1 != (t597.length : Int)) = false := bne_eq_false_iff_eq.mpr c69
        clear c69
        have c70 : x31_1 = t575 := Classical.byContradiction fun c70 => by
         rw [if_neg c70] at H
         exact absurd H (by simp)
        rw [if_pos c70] at H
        have c70b0 : (x31_1 == t575) = true := beq_iff_eq.mpr c70
        have c70b1 : (x31_1 != t575) = false := bne_eq_false_iff_eq.mpr c70
        clear c70
        replace H := Option.bind_eq_some_iff.mp H
        obtain ⟨t613, A710, H⟩ := H
        try dsimp only at H
        have A71 := Aside0.mk A710
        clear A710
        have c72 : t613 = true := Classical.byContradiction fun c72 => by
         replace c72 := Bool.eq_false_iff.mpr c72
         subst c72
         rw [if_neg (show ¬ (false = true) by decide)] at H
         try dsimp only at H
         exact absurd H (by simp)
        subst c72
        rw [if_pos rfl] at H
        try dsimp only at H
        have c73 : ¬ (t602 = 0) := fun c73 => by
         rw [if_pos c73] at H
         exact absurd H (by simp)
        rw [if_neg c73] at H
        have c73b0 : (t602 == 0) = false := beq_eq_false_iff_ne.mpr c73
        have c73b1 : (t602 != 0) = true := bne_iff_ne.mpr c73
        have c74 : (Int.tmod (wrap64 ((t604.length : Int) * t589)) t602) = 0 := Classical.byContradiction fun c74 => by
         rw [if_neg c74] at H
         exact absurd H (by simp)
        rw [if_pos c74] at H
        have c74b0 : ((Int.tmod (wrap64 ((t604.length : Int) * t589)) t602) == 0) = true := beq_iff_eq.mpr c74
        have c74b1 : ((Int.tmod (wrap64 ((t604.length : Int) * t589)) t602) != 0) = false := bne_eq_false_iff_eq.mpr c74
        clear c74
        have H' := Aside0.mk H
        clear H
        obtain ⟨Ao75, co75, eo75⟩ := Kd.R_slice HO_24.out
        subst eo75
        obtain ⟨Ao76, co76, eo76⟩ := Kd.R_slice HO_28.out
        subst eo76
        as_aux_lemma =>
        go_wp2_with (first | (go_at_call 37; (with_reducible refine (laws_gHas.calls k1 _ _ t604 t576 true _ ?side1 ?side2 A71.out).mono ?_); (case side1 => repeat (first | exact (Kd.R_reads' HO_28.out).2.2 | with_reducible first | refine Kd.C_alloc ?_ _ | refine Kd.C_drewN ?_ _ | refine Kd.C_drew ?_)); (case side2 => exact (Kd.R_reads' HO_28.out).2.1); rintro e w' ⟨rfl, ⟨nd, rfl⟩⟩))
        as_aux_lemma =>
        go_loopg [289] k1 (fun kq v289 w' => ∃ (x289_2 : Int), v289 = .int .i64 x289_2 ∧ Aside0 (laws_FnStepsAround.l1 kq l1 t575 t576 t593 t597 t602 t604 t597 (t597.length : Int) x289_2 = some r) ∧ Aside0 (kq ≤ k1) ∧ Aside0 (Kd.R (Kd.int .i64) 3 w' w.heap.size (fun k_ => some k_ ≠ ((.slice Ao76 t604.length co76) : Value).ownBlock) (.slice Ao75 t597.length co75) t597) ∧ Aside0 (Kd.R (Kd.int .i64) 3 w' w.heap.size (fun k_ => some k_ ≠ ((.slice Ao75 t597.length co75) : Value).ownBlock ∧ some k_ ≠ ((.slice Ao75 t597.length co75) : Value).ownBlock) (.slice Ao76 t604.length co76) t604) ∧ Aside0 (Kd.R (Kd.int .i64) 3 w' w.heap.size (fun k_ => some k_ ≠ ((.slice Ao76 t604.length co76) : Value).ownBlock) (.slice Ao75 t597.length co75) t597) ∧ Aside0 (Below w.heap.size w w'))
        case atStart => exact ⟨(0), (by first | rfl | (simp; done) | (simp [*]; done)), H', ⟨Nat.le_refl _⟩, ⟨by (with_reducible repeat (first | apply Kd.R_alloc | apply Kd.R_drewN | apply Kd.R_drew)); exact Kd.R_mono HO_24.out (fun _ hk => hk.2.1)⟩, ⟨by (with_reducible repeat (first | apply Kd.R_alloc | apply Kd.R_drewN | apply Kd.R_drew)); exact Kd.R_mono HO_28.out (fun _ hk => ⟨hk.2.1, hk.2.1⟩)⟩, ⟨by (with_reducible repeat (first | apply Kd.R_alloc | apply Kd.R_drewN | apply Kd.R_drew)); exact Kd.R_mono HO_24.out (fun _ hk => hk.2.1)⟩, ⟨by repeat (first | exact HB.out | apply below_alloc | apply pw_below_drewN | apply below_drew1)⟩⟩
        case round =>
         as_aux_lemma =>
         clear H'
         try clear c48b0
         try clear c65
         try clear c66
         try clear c66b0
         try clear c66b1
         try clear c67b0
         try clear c67b1
         try clear c68
         try clear c69b0
         try clear c69b1
         try clear c70b0
         try clear c70b1
         try clear c72
         try clear c73
         try clear c73b0
         try clear c73b1
         try clear c74b0
         try clear c74b1
         obtain ⟨x289_2, rfl, HA, HK2, HO_24, HO_28, HO_287, HB⟩ := hrel
         cases gk with
         | zero => exact absurd HA.out (by simp [laws_FnStepsAround.l1])
         | succ k2 =>
          have H := HA.out
          clear HA
          simp only [laws_FnStepsAround.l1] at H
          by_cases c77 : x289_2 < (t597.length : Int)
          ·as_aux_lemma =>
           rw [if_pos c77] at H
           have c77b0 : decide (x289_2 < (t597.length : Int)) = true := decide_eq_true c77
           clear c77
           have c78 : 0 ≤ x289_2 := Classical.byContradiction fun c78 => by
            rw [if_neg c78] at H
            exact absurd H (by simp)
           rw [if_pos c78] at H
           have c78b0 : decide (0 ≤ x289_2) = true := decide_eq_true c78
           clear c78
           have c79 : x289_2 < (t597.length : Int) := Classical.byContradiction fun c79 => by
            rw [if_neg c79] at H
            exact absurd H (by simp)
           rw [if_pos c79] at H
           have c79b0 : decide (x289_2 < (t597.length : Int)) = true := decide_eq_true c79
           clear c79
           have c80 : ¬ ((rd t597 x289_2) > t575) := fun c80 => by
            rw [if_pos c80] at H
            exact absurd H (by simp)
           rw [if_neg c80] at H
           have c80b0 : decide (t575 < (rd t597 x289_2)) = false := decide_eq_false c80
           clear c80
           by_cases c81 : (rd t597 x289_2) = t575
           ·as_aux_lemma =>
            rw [if_pos c81] at H
            have c81b0 : ((rd t597 x289_2) == t575) = true := beq_iff_eq.mpr c81
            have c81b1 : ((rd t597 x289_2) != t575) = false := bne_eq_false_iff_eq.mpr c81
            clear c81
            have c82 : x289_2 < (t604.length : Int) := Classical.byContradiction fun c82 => by
             rw [if_neg c82] at H
             exact absurd H (by simp)
            rw [if_pos c82] at H
            have c82b0 : decide (x289_2 < (t604.length : Int)) = true := decide_eq_true c82
            clear c82
            have c83 : ¬ ((rd t604 x289_2) < t576) := fun c83 => by
             rw [if_pos c83] at H
             exact absurd H (by simp)
            rw [if_neg c83] at H
            have c83b0 : decide ((rd t604 x289_2) < t576) = false := decide_eq_false c83
            clear c83
            have H' := Aside0.mk H
            clear H
            have p614 : 0 ≤ (x289_2 : Int) := of_decide_eq_true (by first | (with_reducible assumption) | assumption)
            have q614 : x289_2 < (t597.length : Int) := of_decide_eq_true (by first | (with_reducible assumption) | assumption)
            obtain ⟨ad614, e614, hx614_0⟩ := Kd.at_int (Kd.R_reads' HO_287.out).2.2 x289_2 p614 q614
            cases e614
            replace p614 := eq_true p614
            replace q614 := eq_true q614
            have p615 : 0 ≤ (x289_2 : Int) := of_decide_eq_true (by first | (with_reducible assumption) | assumption)
            have q615 : x289_2 < (t604.length : Int) := of_decide_eq_true (by first | (with_reducible assumption) | assumption)
            obtain ⟨ad615, e615, hx615_0⟩ := Kd.at_int (Kd.R_reads' HO_28.out).2.2 x289_2 p615 q615
            cases e615
            replace p615 := eq_true p615
            replace q615 := eq_true q615
            as_aux_lemma =>
            go_wp2
            first | go_roundg k2 | (try subst hji57; go_roundg k2)
            case measure => have := HK1.out; have := HK2.out; omega
            case rel => exact ⟨(wrap64 (x289_2 + 1)), (by first | rfl | (simp; done) | (simp [*]; done)), H', ⟨by have := HK1.out; have := HK2.out; omega⟩, ⟨by (with_reducible repeat (first | apply Kd.R_alloc | apply Kd.R_drewN | apply Kd.R_drew)); exact HO_24.out⟩, ⟨by (with_reducible repeat (first | apply Kd.R_alloc | apply Kd.R_drewN | apply Kd.R_drew)); exact HO_28.out⟩, ⟨by (with_reducible repeat (first | apply Kd.R_alloc | apply Kd.R_drewN | apply Kd.R_drew)); exact HO_287.out⟩, ⟨by repeat (first | exact HB.out | apply below_alloc | apply pw_below_drewN | apply below_drew1)⟩⟩
           ·as_aux_lemma =>
            rw [if_neg c81] at H
            have c81b0 : ((rd t597 x289_2) == t575) = false := beq_eq_false_iff_ne.mpr c81
            have c81b1 : ((rd t597 x289_2) != t575) = true := bne_iff_ne.mpr c81
            have H' := Aside0.mk H
            clear H
            have p614 : 0 ≤ (x289_2 : Int) := of_decide_eq_true (by first | (with_reducible assumption) | assumption)
            have q614 : x289_2 < (t597.length : Int) := of_decide_eq_true (by first | (with_reducible assumption) | assumption)
            obtain ⟨ad614, e614, hx614_0⟩ := Kd.at_int (Kd.R_reads' HO_287.out).2.2 x289_2 p614 q614
            cases e614
            replace p614 := eq_true p614
            replace q614 := eq_true q614
            as_aux_lemma =>
            go_wp2
            first | go_roundg k2 | (try subst hji57; go_roundg k2)
            case measure => have := HK1.out; have := HK2.out; omega
            case rel => exact ⟨(wrap64 (x289_2 + 1)), (by first | rfl | (simp; done) | (simp [*]; done)), H', ⟨by have := HK1.out; have := HK2.out; omega⟩, ⟨by (with_reducible repeat (first | apply Kd.R_alloc | apply Kd.R_drewN | apply Kd.R_drew)); exact HO_24.out⟩, ⟨by (with_reducible repeat (first | apply Kd.R_alloc | apply Kd.R_drewN | apply Kd.R_drew)); exact HO_28.out⟩, ⟨by (with_reducible repeat (first | apply Kd.R_alloc | apply Kd.R_drewN | apply Kd.R_drew)); exact HO_287.out⟩, ⟨by repeat (first | exact HB.out | apply below_alloc | apply pw_below_drewN | apply below_drew1)⟩⟩
          ·as_aux_lemma =>
           rw [if_neg c77] at H
           have c77b0 : decide (x289_2 < (t597.length : Int)) = false := decide_eq_false c77
           clear c77
           by_cases c84 : t593 = true
           ·subst c84
            rw [if_pos rfl] at H
            try dsimp only at H
            have H' := Aside0.mk H
            clear H
            as_aux_lemma =>
            go_wp2
            as_aux_lemma =>
            go_loopg [314] k2 (fun kq v314 w' => ∃ (x314_3 : Int), v314 = .int .i64 x314_3 ∧ Aside0 (laws_FnStepsAround.l2 kq l1 t597 t602 t604 t597 (t597.length : Int) x314_3 = some r) ∧ Aside0 (kq ≤ k2) ∧ Aside0 (Kd.R (Kd.int .i64) 3 w' w.heap.size (fun k_ => some k_ ≠ ((.slice Ao76 t604.length co76) : Value).ownBlock) (.slice Ao75 t597.length co75) t597) ∧ Aside0 (Kd.R (Kd.int .i64) 3 w' w.heap.size (fun k_ => some k_ ≠ ((.slice Ao75 t597.length co75) : Value).ownBlock ∧ some k_ ≠ ((.slice Ao75 t597.length co75) : Value).ownBlock) (.slice Ao76 t604.length co76) t604) ∧ Aside0 (Kd.R (Kd.int .i64) 3 w' w.heap.size (fun k_ => some k_ ≠ ((.slice Ao76 t604.length co76) : Value).ownBlock) (.slice Ao75 t597.length co75) t597) ∧ Aside0 (Below w.heap.size w w'))
            case atStart => exact ⟨(0), (by first | rfl | (simp; done) | (simp [*]; done)), H', ⟨Nat.le_refl _⟩, ⟨by (with_reducible repeat (first | apply Kd.R_alloc | apply Kd.R_drewN | apply Kd.R_drew)); exact HO_24.out⟩, ⟨by (with_reducible repeat (first | apply Kd.R_alloc | apply Kd.R_drewN | apply Kd.R_drew)); exact Kd.R_mono HO_28.out (fun _ hk => ⟨hk.1, hk.1⟩)⟩, ⟨by (with_reducible repeat (first | apply Kd.R_alloc | apply Kd.R_drewN | apply Kd.R_drew)); exact HO_24.out⟩, ⟨by repeat (first | exact HB.out | apply below_alloc | apply pw_below_drewN | apply below_drew1)⟩⟩
            case round =>
             as_aux_lemma =>
             clear H'
             try clear c77b0
             try clear c84
             obtain ⟨x314_3, rfl, HA, HK3, HO_24, HO_28, HO_312, HB⟩ := hrel
             cases gk with
             | zero => exact absurd HA.out (by simp [laws_FnStepsAround.l2])
             | succ k3 =>
              have H := HA.out
              clear HA
              simp only [laws_FnStepsAround.l2] at H
              by_cases c85 : x314_3 < (t597.length : Int)
              ·as_aux_lemma =>
               rw [if_pos c85] at H
               have c85b0 : decide (x314_3 < (t597.length : Int)) = true := decide_eq_true c85
               clear c85
               have c86 : 0 ≤ x314_3 := Classical.byContradiction fun c86 => by
                rw [if_neg c86] at H
                exact absurd H (by simp)
               rw [if_pos c86] at H
               have c86b0 : decide (0 ≤ x314_3) = true := decide_eq_true c86
               clear c86
               have c87 : x314_3 < (t597.length : Int) := Classical.byContradiction fun c87 => by
                rw [if_neg c87] at H
                exact absurd H (by simp)
               rw [if_pos c87] at H
               have c87b0 : decide (x314_3 < (t597.length : Int)) = true := decide_eq_true c87
               clear c87
               obtain ⟨ji88, hji88⟩ : ∃ j_ : Int, (wrap64 ((t604.length : Int) - 1)) = j_ := ⟨_, rfl⟩
               replace H : (if 0 ≤ (ji88) then (if (ji88) < (t604.length : Int) then (if (rd t604 (ji88)) = t602 then (if (t597.length : Int) = 0 then (none) else (if 0 ≤ (Int.tmod (wrap64 ((wrap64 ((wrap64 ((wrap64 ((t597.length : Int) - 2)) - x314_3)) - 1)) + (wrap64 (3 * (t597.length : Int))))) (t597.length : Int)) then (if (Int.tmod (wrap64 ((wrap64 ((wrap64 ((wrap64 ((t597.length : Int) - 2)) - x314_3)) - 1)) + (wrap64 (3 * (t597.length : Int))))) (t597.length : Int)) < (t597.length : Int) then (if (rd t597 (Int.tmod (wrap64 ((wrap64 ((wrap64 ((wrap64 ((t597.length : Int) - 2)) - x314_3)) - 1)) + (wrap64 (3 * (t597.length : Int))))) (t597.length : Int))) = (rd t597 x314_3) then (laws_FnStepsAround.l2 k3 l1 t597 t602 t604 t597 (t597.length : Int) (wrap64 (x314_3 + 1))) else (none)) else (none)) else (none))) else (if (t597.length : Int) = 0 then (none) else (if 0 ≤ (Int.tmod (wrap64 ((wrap64 ((wrap64 ((t597.length : Int) - 2)) - x314_3)) + (wrap64 (3 * (t597.length : Int))))) (t597.length : Int)) then (if (Int.tmod (wrap64 ((wrap64 ((wrap64 ((t597.length : Int) - 2)) - x314_3)) + (wrap64 (3 * (t597.length : Int))))) (t597.length : Int)) < (t597.length : Int) then (if (rd t597 (Int.tmod (wrap64 ((wrap64 ((wrap64 ((t597.length : Int) - 2)) - x314_3)) + (wrap64 (3 * (t597.length : Int))))) (t597.length : Int))) = (rd t597 x314_3) then (laws_FnStepsAround.l2 k3 l1 t597 t602 t604 t597 (t597.length : Int) (wrap64 (x314_3 + 1))) else (none)) else (none)) else (none)))) else (none)) else (none)) = some r := by first | (rw [hji88] at H; exact H) | (simp only [hji88] at H ⊢; exact H)
               have hji88w : (IntKind.i64.wrap ((t604.length : Int) - 1)) = ji88 := (i64_w _).trans hji88
               have c89 : 0 ≤ (ji88) := Classical.byContradiction fun c89 => by
                rw [if_neg c89] at H
                exact absurd H (by simp)
               rw [if_pos c89] at H
               have c89b0 : decide (0 ≤ (ji88)) = true := decide_eq_true c89
               clear c89
               have c90 : (ji88) < (t604.length : Int) := Classical.byContradiction fun c90 => by
                rw [if_neg c90] at H
                exact absurd H (by simp)
               rw [if_pos c90] at H
               have c90b0 : decide ((ji88) < (t604.length : Int)) = true := decide_eq_true c90
               clear c90
               by_cases c91 : (rd t604 (ji88)) = t602
               ·as_aux_lemma =>
                rw [if_pos c91] at H
                have c91b0 : ((rd t604 (ji88)) == t602) = true := beq_iff_eq.mpr c91
                have c91b1 : ((rd t604 (ji88)) != t602) = false := bne_eq_false_iff_eq.mpr c91
                clear c91
                have c92 : ¬ ((t597.length : Int) = 0) := fun c92 => by
                 rw [if_pos c92] at H
                 exact absurd H (by simp)
                rw [if_neg c92] at H
                have c92b0 : ((t597.length : Int) == 0) = false := beq_eq_false_iff_ne.mpr c92
                have c92b1 : ((t597.length : Int) != 0) = true := bne_iff_ne.mpr c92
                have c92b2 : ¬ (t597 = []) := fun h_ => c92 (by rw [h_]; rfl)
                obtain ⟨ji93, hji93⟩ : ∃ j_ : Int, (Int.tmod (wrap64 ((wrap64 ((wrap64 ((wrap64 ((t597.length : Int) - 2)) - x314_3)) - 1)) + (wrap64 (3 * (t597.length : Int))))) (t597.length : Int)) = j_ := ⟨_, rfl⟩
                replace H : (if 0 ≤ (ji93) then (if (ji93) < (t597.length : Int) then (if (rd t597 (ji93)) = (rd t597 x314_3) then (laws_FnStepsAround.l2 k3 l1 t597 t602 t604 t597 (t597.length : Int) (wrap64 (x314_3 + 1))) else (none)) else (none)) else (none)) = some r := by first | (rw [hji93] at H; exact H) | (simp only [hji93] at H ⊢; exact H)
                have c94 : 0 ≤ (ji93) := Classical.byContradiction fun c94 => by
                 rw [if_neg c94] at H
                 exact absurd H (by simp)
                rw [if_pos c94] at H
                have c94b0 : decide (0 ≤ (ji93)) = true := decide_eq_true c94
                clear c94
                have c95 : (ji93) < (t597.length : Int) := Classical.byContradiction fun c95 => by
                 rw [if_neg c95] at H
                 exact absurd H (by simp)
                rw [if_pos c95] at H
                have c95b0 : decide ((ji93) < (t597.length : Int)) = true := decide_eq_true c95
                clear c95
                have c96 : (rd t597 (ji93)) = (rd t597 x314_3) := Classical.byContradiction fun c96 => by
                 rw [if_neg c96] at H
                 exact absurd H (by simp)
                rw [if_pos c96] at H
                have c96b0 : ((rd t597 (ji93)) == (rd t597 x314_3)) = true := beq_iff_eq.mpr c96
                have c96b1 : ((rd t597 (ji93)) != (rd t597 x314_3)) = false := bne_eq_false_iff_eq.mpr c96
                clear c96
                have H' := Aside0.mk H
                clear H
                have p616 : 0 ≤ (x314_3 : Int) := of_decide_eq_true (by first | (with_reducible assumption) | assumption)
                have q616 : x314_3 < (t597.length : Int) := of_decide_eq_true (by first | (with_reducible assumption) | assumption)
                obtain ⟨ad616, e616, hx616_0⟩ := Kd.at_int (Kd.R_reads' HO_312.out).2.2 x314_3 p616 q616
                cases e616
                replace p616 := eq_true p616
                replace q616 := eq_true q616
                have p617 : 0 ≤ ((ji88) : Int) := of_decide_eq_true (by first | (with_reducible assumption) | assumption)
                have q617 : (ji88) < (t604.length : Int) := of_decide_eq_true (by first | (with_reducible assumption) | assumption)
                obtain ⟨ad617, e617, hx617_0⟩ := Kd.at_int (Kd.R_reads' HO_28.out).2.2 (ji88) p617 q617
                cases e617
                replace p617 := eq_true p617
                replace q617 := eq_true q617
                have p618 : 0 ≤ ((ji93) : Int) := of_decide_eq_true (by first | (with_reducible assumption) | assumption)
                have q618 : (ji93) < (t597.length : Int) := of_decide_eq_true (by first | (with_reducible assumption) | assumption)
                obtain ⟨ad618, e618, hx618_0⟩ := Kd.at_int (Kd.R_reads' HO_24.out).2.2 (ji93) p618 q618
                obtain rfl : ad616 = ad618 := (by injection e618)
                replace p618 := eq_true p618
                replace q618 := eq_true q618
                as_aux_lemma =>
                go_wp2
                first | go_roundg k3 | (try subst hji57; try subst hji88; try subst hji93; go_roundg k3)
                case measure => have := HK1.out; have := HK2.out; have := HK3.out; omega
                case rel => exact ⟨(wrap64 (x314_3 + 1)), (by first | rfl | (simp; done) | (simp [*]; done)), H', ⟨by have := HK1.out; have := HK2.out; have := HK3.out; omega⟩, ⟨by (with_reducible repeat (first | apply Kd.R_alloc | apply Kd.R_drewN | apply Kd.R_drew)); exact HO_24.out⟩, ⟨by (with_reducible repeat (first | apply Kd.R_alloc | apply Kd.R_drewN | apply Kd.R_drew)); exact HO_28.out⟩, ⟨by (with_reducible repeat (first | apply Kd.R_alloc | apply Kd.R_drewN | apply Kd.R_drew)); exact HO_312.out⟩, ⟨by repeat (first | exact HB.out | apply below_alloc | apply pw_below_drewN | apply below_drew1)⟩⟩
               ·as_aux_lemma =>
                rw [if_neg c91] at H
                have c91b0 : ((rd t604 (ji88)) == t602) = false := beq_eq_false_iff_ne.mpr c91
                have c91b1 : ((rd t604 (ji88)) != t602) = true := bne_iff_ne.mpr c91
                have c97 : ¬ ((t597.length : Int) = 0) := fun c97 => by
                 rw [if_pos c97] at H
                 exact absurd H (by simp)
                rw [if_neg c97] at H
                have c97b0 : ((t597.length : Int) == 0) = false := beq_eq_false_iff_ne.mpr c97
                have c97b1 : ((t597.length : Int) != 0) = true := bne_iff_ne.mpr c97
                have c97b2 : ¬ (t597 = []) := fun h_ => c97 (by rw [h_]; rfl)
                obtain ⟨ji98, hji98⟩ : ∃ j_ : Int, (Int.tmod (wrap64 ((wrap64 ((wrap64 ((t597.length : Int) - 2)) - x314_3)) + (wrap64 (3 * (t597.length : Int))))) (t597.length : Int)) = j_ := ⟨_, rfl⟩
                replace H : (if 0 ≤ (ji98) then (if (ji98) < (t597.length : Int) then (if (rd t597 (ji98)) = (rd t597 x314_3) then (laws_FnStepsAround.l2 k3 l1 t597 t602 t604 t597 (t597.length : Int) (wrap64 (x314_3 + 1))) else (none)) else (none)) else (none)) = some r := by first | (rw [hji98] at H; exact H) | (simp only [hji98] at H ⊢; exact H)
                have c99 : 0 ≤ (ji98) := Classical.byContradiction fun c99 => by
                 rw [if_neg c99] at H
                 exact absurd H (by simp)
                rw [if_pos c99] at H
                have c99b0 : decide (0 ≤ (ji98)) = true := decide_eq_true c99
                clear c99
                have c100 : (ji98) < (t597.length : Int) := Classical.byContradiction fun c100 => by
                 rw [if_neg c100] at H
                 exact absurd H (by simp)
                rw [if_pos c100] at H
                have c100b0 : decide ((ji98) < (t597.length : Int)) = true := decide_eq_true c100
                clear c100
                have c101 : (rd t597 (ji98)) = (rd t597 x314_3) := Classical.byContradiction fun c101 => by
                 rw [if_neg c101] at H
                 exact absurd H (by simp)
                rw [if_pos c101] at H
                have c101b0 : ((rd t597 (ji98)) == (rd t597 x314_3)) = true := beq_iff_eq.mpr c101
                have c101b1 : ((rd t597 (ji98)) != (rd t597 x314_3)) = false := bne_eq_false_iff_eq.mpr c101
                clear c101
                have H' := Aside0.mk H
                clear H
                have p616 : 0 ≤ (x314_3 : Int) := of_decide_eq_true (by first | (with_reducible assumption) | assumption)
                have q616 : x314_3 < (t597.length : Int) := of_decide_eq_true (by first | (with_reducible assumption) | assumption)
                obtain ⟨ad616, e616, hx616_0⟩ := Kd.at_int (Kd.R_reads' HO_312.out).2.2 x314_3 p616 q616
                cases e616
                replace p616 := eq_true p616
                replace q616 := eq_true q616
                have p617 : 0 ≤ ((ji88) : Int) := of_decide_eq_true (by first | (with_reducible assumption) | assumption)
                have q617 : (ji88) < (t604.length : Int) := of_decide_eq_true (by first | (with_reducible assumption) | assumption)
                obtain ⟨ad617, e617, hx617_0⟩ := Kd.at_int (Kd.R_reads' HO_28.out).2.2 (ji88) p617 q617
                cases e617
                replace p617 := eq_true p617
                replace q617 := eq_true q617
                have p619 : 0 ≤ ((ji98) : Int) := of_decide_eq_true (by first | (with_reducible assumption) | assumption)
                have q619 : (ji98) < (t597.length : Int) := of_decide_eq_true (by first | (with_reducible assumption) | assumption)
                obtain ⟨ad619, e619, hx619_0⟩ := Kd.at_int (Kd.R_reads' HO_24.out).2.2 (ji98) p619 q619
                obtain rfl : ad616 = ad619 := (by injection e619)
                replace p619 := eq_true p619
                replace q619 := eq_true q619
                as_aux_lemma =>
                go_wp2
                first | go_roundg k3 | (try subst hji57; try subst hji88; try subst hji93; try subst hji98; go_roundg k3)
                case measure => have := HK1.out; have := HK2.out; have := HK3.out; omega
                case rel => exact ⟨(wrap64 (x314_3 + 1)), (by first | rfl | (simp; done) | (simp [*]; done)), H', ⟨by have := HK1.out; have := HK2.out; have := HK3.out; omega⟩, ⟨by (with_reducible repeat (first | apply Kd.R_alloc | apply Kd.R_drewN | apply Kd.R_drew)); exact HO_24.out⟩, ⟨by (with_reducible repeat (first | apply Kd.R_alloc | apply Kd.R_drewN | apply Kd.R_drew)); exact HO_28.out⟩, ⟨by (with_reducible repeat (first | apply Kd.R_alloc | apply Kd.R_drewN | apply Kd.R_drew)); exact HO_312.out⟩, ⟨by repeat (first | exact HB.out | apply below_alloc | apply pw_below_drewN | apply below_drew1)⟩⟩
              ·as_aux_lemma =>
               rw [if_neg c85] at H
               have c85b0 : decide (x314_3 < (t597.length : Int)) = false := decide_eq_false c85
               clear c85
               have H' := Aside0.mk H
               clear H
               as_aux_lemma =>
               go_wp2
               as_aux_lemma =>
               go_meet
               case rel => exact ⟨_, H', ⟨by have := HK1.out; have := HK2.out; have := HK3.out; first | omega | exact Nat.le_refl _⟩, ⟨by repeat (first | exact HB.out | apply below_alloc | apply pw_below_drewN | apply below_drew1)⟩⟩
           ·replace c84 := Bool.eq_false_iff.mpr c84
            subst c84
            rw [if_neg (show ¬ (false = true) by decide)] at H
            try dsimp only at H
            have H' := Aside0.mk H
            clear H
            as_aux_lemma =>
            go_wp2
            as_aux_lemma =>
            go_meet
            case rel => exact ⟨_, H', ⟨by have := HK1.out; have := HK2.out; first | omega | exact Nat.le_refl _⟩, ⟨by repeat (first | exact HB.out | apply below_alloc | apply pw_below_drewN | apply below_drew1)⟩⟩
    ·replace c43 := Bool.eq_false_iff.mpr c43
     subst c43
     rw [if_neg (show ¬ (false = true) by decide)] at H
     try dsimp only at H
     have H' := Aside0.mk H
     clear H
     as_aux_lemma =>
     go_wp2
     as_aux_lemma =>
     go_meet
     case rel => exact ⟨_, H', ⟨by first | omega | exact Nat.le_refl _⟩, ⟨by repeat (first | exact HB.out | apply below_alloc | apply pw_below_drewN | apply below_drew1)⟩⟩
   case rest =>
    as_aux_lemma =>
    clear HC29
    try clear c1
    try clear c4
    try clear c15b0
    try clear c15b1
    try clear c15b2
    try clear c16b0
    try clear c16b1
    try clear c17b0
    try clear c17b1
    try clear c18b0
    try clear c18b1
    try clear c18b2
    try clear c20
    try clear c21b0
    try clear c21b1
    try clear c21b2
    try clear c22b0
    try clear c22b1
    try clear c23b0
    try clear c23b1
    try clear c23b2
    try clear c24b0
    try clear c24b1
    try clear c24b2
    try clear c25b0
    try clear c25b1
    try clear c25b2
    try clear c26b0
    try clear c26b1
    try clear c26b2
    try clear c27b0
    try clear c27b1
    try clear c27b2
    try clear c28b0
    try clear c28b1
    try clear c28b2
    obtain ⟨kq, HA, HJ28, HB⟩ := hcut
    cases kq with
    | zero => exact absurd HA.out (by simp [laws_FnStepsAround.j3])
    | succ kj28 =>
     have H := HA.out
     clear HA
     simp only [laws_FnStepsAround.j3] at H
     replace H := Option.bind_eq_some_iff.mp H
     obtain ⟨⟨t620, t621⟩, A1020, H⟩ := H
     try dsimp only at H
     have A102 := Aside0.mk A1020
     clear A1020
     replace H := Option.bind_eq_some_iff.mp H
     obtain ⟨⟨t624, t625⟩, A1030, H⟩ := H
     try dsimp only at H
     have A103 := Aside0.mk A1030
     clear A1030
     replace H := Option.bind_eq_some_iff.mp H
     obtain ⟨⟨t628, t629⟩, A1040, H⟩ := H
     try dsimp only at H
     have A104 := Aside0.mk A1040
     clear A1040
     have c105 : ¬ ((t625 != t629) = true) := fun c105 => by
      rw [if_pos c105] at H
      exact absurd H (by simp)
     rw [if_neg c105] at H
     have c105b0 : (t625 != t629) = false := by simpa using c105
     (try (have c105b1 : decide (t625 = t629) = true := by simpa using c105))
     (try (have c105b2 : (t625 == t629) = true := by simpa using c105))
     clear c105
     replace H := Option.bind_eq_some_iff.mp H
     obtain ⟨t632, A1060, H⟩ := H
     try dsimp only at H
     have A106 := Aside0.mk A1060
     clear A1060
     have c107 : t632 = true := Classical.byContradiction fun c107 => by
      replace c107 := Bool.eq_false_iff.mpr c107
      subst c107
      rw [if_neg (show ¬ (false = true) by decide)] at H
      try dsimp only at H
      exact absurd H (by simp)
     subst c107
     rw [if_pos rfl] at H
     try dsimp only at H
     have HC108 := Aside0.mk H
     clear H
     as_aux_lemma =>
     go_upto_if 374 with (first | ((with_reducible refine gate_callee (f := 38) rfl ?_); refine goesL_ (some 350) rfl rfl Try.func38 (by kernel_rfl) rfl #[.slice A1 l1.length c1] rfl (by simp only [List.map_toArray, List.map_cons, List.map_nil] <;> rfl) ?_; (with_reducible refine (spec_DrawRollWheel.calls kj28 _ _ l1 t620 t621 _ ?side1 ?side2 A102.out).mono ?_); (case side1 => repeat (first | exact (Kd.C_below HR1.out HB.out) | with_reducible first | refine Kd.C_alloc ?_ _ | refine Kd.C_drewN ?_ _ | refine Kd.C_drew ?_)); (case side2 => exact HC1.out); rintro e w109 ⟨v622, rfl, ho0, hb⟩; refine ⟨_, rfl, ?_⟩; have n0_ := Aside0.mk (Kd.R_lower ho0 (below_size (by repeat first | exact HB.out | apply below_alloc | apply pw_below_drewN | apply below_drew1))); have n1_ := Aside0.mk (below_step (by repeat first | exact HB.out | apply below_alloc | apply pw_below_drewN | apply below_drew1) hb); clear HB; have HO623 := n0_; have HB := n1_; clear n0_ n1_; (try clear hb); (try clear ho0); obtain ⟨Ao110, co110, eo110⟩ := Kd.R_slice HO623.out; subst eo110) | ((with_reducible refine gate_callee (f := 39) rfl ?_); refine goesL_ (some 356) rfl rfl Try.func39 (by kernel_rfl) rfl #[.slice Ao110 t620.length co110, .int .i64 t621] rfl (by simp only [List.map_toArray, List.map_cons, List.map_nil] <;> rfl) ?_; (with_reducible refine (impl_RollWheel.calls kj28 _ _ t620 t621 t624 t625 _ ?side1 ?side2 A103.out).mono ?_); (case side1 => repeat (first | exact (Kd.R_reads' HO623.out).2.2 | with_reducible first | refine Kd.C_alloc ?_ _ | refine Kd.C_drewN ?_ _ | refine Kd.C_drew ?_)); (case side2 => exact (Kd.R_reads' HO623.out).2.1); rintro e w111 ⟨v626, rfl, ho0, hb⟩; refine ⟨_, rfl, ?_⟩; have n0_ := Aside0.mk (Kd.R_below (by (with_reducible repeat (first | apply Kd.R_alloc | apply Kd.R_drewN | apply Kd.R_drew)); exact HO623.out) hb); have n1_ := Aside0.mk (Kd.R_lower ho0 (below_size (by repeat first | exact HB.out | apply below_alloc | apply pw_below_drewN | apply below_drew1))); have n2_ := Aside0.mk (below_step (by repeat first | exact HB.out | apply below_alloc | apply pw_below_drewN | apply below_drew1) hb); clear HO623; clear HB; have HO623 := n0_; have HO627 := n1_; have HB := n2_; clear n0_ n1_ n2_; (try clear hb); (try clear ho0)) | ((with_reducible refine gate_callee (f := 40) rfl ?_); refine goesL_ (some 362) rfl rfl Try.func40 (by kernel_rfl) rfl #[.slice Ao110 t620.length co110, .int .i64 t621] rfl (by simp only [List.map_toArray, List.map_cons, List.map_nil] <;> rfl) ?_; (with_reducible refine (spec_RollWheel.calls kj28 _ _ t620 t621 t628 t629 _ ?side1 ?side2 A104.out).mono ?_); (case side1 => repeat (first | exact (Kd.R_reads' HO623.out).2.2 | with_reducible first | refine Kd.C_alloc ?_ _ | refine Kd.C_drewN ?_ _ | refine Kd.C_drew ?_)); (case side2 => exact (Kd.R_reads' HO623.out).2.1); rintro e w112 ⟨v630, rfl, ho0, hb⟩; refine ⟨_, rfl, ?_⟩; have n0_ := Aside0.mk (Kd.R_below (by (with_reducible repeat (first | apply Kd.R_alloc | apply Kd.R_drewN | apply Kd.R_drew)); exact HO623.out) hb); have n1_ := Aside0.mk (Kd.R_elder' (by (with_reducible repeat (first | apply Kd.R_alloc | apply Kd.R_drewN | apply Kd.R_drew)); exact HO627.out) (Kd.R_base ho0) hb); have n2_ := Aside0.mk (Kd.R_lower (Kd.R_new' ho0 (Kd.R_lt (by (with_reducible repeat (first | apply Kd.R_alloc | apply Kd.R_drewN | apply Kd.R_drew)); exact HO627.out))) (below_size (by repeat first | exact HB.out | apply below_alloc | apply pw_below_drewN | apply below_drew1))); have n3_ := Aside0.mk (below_step (by repeat first | exact HB.out | apply below_alloc | apply pw_below_drewN | apply below_drew1) hb); clear HO623; clear HO627; clear HB; have HO623 := n0_; have HO627 := n1_; have HO631 := n2_; have HB := n3_; clear n0_ n1_ n2_ n3_; (try clear hb); (try clear ho0); obtain ⟨Ao113, co113, eo113⟩ := Kd.R_slice HO627.out; subst eo113; obtain ⟨Ao114, co114, eo114⟩ := Kd.R_slice HO631.out; subst eo114))
     as_aux_lemma =>
     go_upto_if 374 with (first | (go_at_call 21; (with_reducible refine (laws_gSame.calls kj28 _ _ t624 _ _ t628 true _ ?side1 ?side2 ?side3 ?side4 A106.out).mono ?_); (case side1 => repeat (first | exact (Kd.R_reads' HO627.out).2.2 | with_reducible first | refine Kd.C_alloc ?_ _ | refine Kd.C_drewN ?_ _ | refine Kd.C_drew ?_)); (case side2 => exact (Kd.R_reads' HO627.out).2.1); (case side3 => repeat (first | exact (Kd.R_reads' HO631.out).2.2 | with_reducible first | refine Kd.C_alloc ?_ _ | refine Kd.C_drewN ?_ _ | refine Kd.C_drew ?_)); (case side4 => exact (Kd.R_reads' HO631.out).2.1); rintro e w' ⟨rfl, ⟨nd, rfl⟩⟩))
     (try simp only [Act.put, List.setIfInBounds_toArray, List.set_cons_zero, List.set_cons_succ])
     go_cut [] from 9999 to 9999 (fun wc => ∃ (kq : Nat), Aside0 (laws_FnStepsAround.j4 kq l1 = some r) ∧ Aside0 (kq ≤ kj28) ∧ Aside0 (Below w.heap.size w wc))
     case first =>
      as_aux_lemma =>
      have H := HC108.out
      clear HC108
      by_cases c115 : t625 = true
      ·subst c115
       rw [if_pos rfl] at H
       try dsimp only at H
       replace H := Option.bind_eq_some_iff.mp H
       obtain ⟨⟨t633, t634⟩, A1160, H⟩ := H
       try dsimp only at H
       have A116 := Aside0.mk A1160
       clear A1160
       obtain ⟨y635, hy635⟩ : ∃ y_ : List (S45), y_ = (([] : List (S45))) := ⟨_, rfl⟩
       replace H : (if y635.length + t620.length < 8796093022208 then ((some (y635 ++ t620 : List (S45))).bind fun y638 => (if y638.length < 8796093022208 then ((impl_SpokesOf.f kj28 (y638 ++ [(⟨t621, 0⟩ : S45)])).bind fun bt644 => (if t634 = true then (if (t624.length : Int) = (wrap64 (t633 * (wrap64 (t621 - 1)))) then (if bt644.2 = true then ((laws_gSame.f kj28 bt644.1 t624).bind fun t648 => (if t648 = true then (laws_FnStepsAround.j4 kj28 l1) else (none))) else (none)) else (none)) else (none))) else (none))) else (none)) = some r := by first | (rw [hy635]; with_reducible exact H) | (have H2_ := (Option.bind_some _ _).symm.trans H; rw [hy635]; with_reducible exact H2_) | (have H2_ := (Option.bind_some _ _).symm.trans H; with_reducible exact H2_) | with_reducible exact H | (rw [hy635]; exact H) | exact H
       have Ny635 := Aside0.mk hy635
       clear hy635
       have c117 : y635.length + t620.length < 8796093022208 := Classical.byContradiction fun c117 => by
        rw [if_neg c117] at H
        exact absurd H (by simp)
       rw [if_pos c117] at H
       have LMc117 := Aside0.mk c117
       clear c117
       obtain ⟨y638, hy638⟩ : ∃ y_ : List (S45), y_ = (y635 ++ t620) := ⟨_, rfl⟩
       replace H : (if y638.length < 8796093022208 then ((impl_SpokesOf.f kj28 (y638 ++ [(⟨t621, 0⟩ : S45)])).bind fun bt644 => (if t634 = true then (if (t624.length : Int) = (wrap64 (t633 * (wrap64 (t621 - 1)))) then (if bt644.2 = true then ((laws_gSame.f kj28 bt644.1 t624).bind fun t648 => (if t648 = true then (laws_FnStepsAround.j4 kj28 l1) else (none))) else (none)) else (none)) else (none))) else (none)) = some r := by first | (rw [hy638]; with_reducible exact H) | (have H2_ := (Option.bind_some _ _).symm.trans H; rw [hy638]; with_reducible exact H2_) | (have H2_ := (Option.bind_some _ _).symm.trans H; with_reducible exact H2_) | with_reducible exact H | (rw [hy638]; exact H) | exact H
       have Ny638 := Aside0.mk hy638
       clear hy638
       have c118 : y638.length < 8796093022208 := Classical.byContradiction fun c118 => by
        rw [if_neg c118] at H
        exact absurd H (by simp)
       rw [if_pos c118] at H
       have LMc118 := Aside0.mk c118
       clear c118
       obtain ⟨y641, hy641⟩ : ∃ y_ : List (S45), y_ = (y638 ++ [(⟨t621, 0⟩ : S45)]) := ⟨_, rfl⟩
       replace H : ((impl_SpokesOf.f kj28 y641).bind fun bt644 => (if t634 = true then (if (t624.length : Int) = (wrap64 (t633 * (wrap64 (t621 - 1)))) then (if bt644.2 = true then ((laws_gSame.f kj28 bt644.1 t624).bind fun t648 => (if t648 = true then (laws_FnStepsAround.j4 kj28 l1) else (none))) else (none)) else (none)) else (none))) = some r := by first | (rw [hy641]; with_reducible exact H) | (have H2_ := (Option.bind_some _ _).symm.trans H; rw [hy641]; with_reducible exact H2_) | (have H2_ := (Option.bind_some _ _).symm.trans H; with_reducible exact H2_) | with_reducible exact H | (rw [hy641]; exact H) | exact H
       have Ny641 := Aside0.mk hy641
       clear hy641
       replace H := Option.bind_eq_some_iff.mp H
       obtain ⟨⟨t644, t645⟩, A1190, H⟩ := H
       try dsimp only at H
       have A119 := Aside0.mk A1190
       clear A1190
       have c120 : t634 = true := Classical.byContradiction fun c120 => by
        replace c120 := Bool.eq_false_iff.mpr c120
        subst c120
        rw [if_neg (show ¬ (false = true) by decide)] at H
        try dsimp only at H
        exact absurd H (by simp)
       subst c120
       rw [if_pos rfl] at H
       try dsimp only at H
       have c121 : (t624.length : Int) = (wrap64 (t633 * (wrap64 (t621 - 1)))) := Classical.byContradiction fun c121 => by
        rw [if_neg c121] at H
        exact absurd H (by simp)
       rw [if_pos c121] at H
       have c121b0 : ((t624.length : Int) == (wrap64 (t633 * (wrap64 (t621 - 1))))) = true := beq_iff_eq.mpr c121
       have c121b1 : ((t624.length : Int) != (wrap64 (t633 * (wrap64 (t621 - 1))))) = false := bne_eq_false_iff_eq.mpr c121
       clear c121
       (first | rw [c121b0] | (simp only [i64_w, i32_w]; rw [c121b0]) | skip)
       have c122 : t645 = true := Classical.byContradiction fun c122 => by
        replace c122 := Bool.eq_false_iff.mpr c122
        subst c122
        rw [if_neg (show ¬ (false = true) by decide)] at H
        try dsimp only at H
        exact absurd H (by simp)
       subst c122
       rw [if_pos rfl] at H
       try dsimp only at H
       replace H := Option.bind_eq_some_iff.mp H
       obtain ⟨t648, A1230, H⟩ := H
       try dsimp only at H
       have A123 := Aside0.mk A1230
       clear A1230
       have c124 : t648 = true := Classical.byContradiction fun c124 => by
        replace c124 := Bool.eq_false_iff.mpr c124
        subst c124
        rw [if_neg (show ¬ (false = true) by decide)] at H
        try dsimp only at H
        exact absurd H (by simp)
       subst c124
       rw [if_pos rfl] at H
       try dsimp only at H
       have H' := Aside0.mk H
       clear H
       as_aux_lemma =>
       go_wp2_with (first | ((with_reducible refine gate_callee (f := 19) rfl ?_); refine goesL_ (some 377) rfl rfl Try.func19 (by kernel_rfl) rfl #[.slice Ao110 t620.length co110] rfl (by simp only [List.map_toArray, List.map_cons, List.map_nil] <;> rfl) ?_; (with_reducible refine (impl_CountSpokes.calls kj28 _ _ t620 t633 true _ ?side1 ?side2 A116.out).mono ?_); (case side1 => repeat (first | exact (Kd.R_reads' HO623.out).2.2 | with_reducible first | refine Kd.C_alloc ?_ _ | refine Kd.C_drewN ?_ _ | refine Kd.C_drew ?_)); (case side2 => exact (Kd.R_reads' HO623.out).2.1); rintro e w125 ⟨rfl, hb⟩; refine ⟨_, rfl, ?_⟩; have n0_ := Aside0.mk (Kd.R_below (by (with_reducible repeat (first | apply Kd.R_alloc | apply Kd.R_drewN | apply Kd.R_drew)); exact HO623.out) hb); have n1_ := Aside0.mk (Kd.R_below (by (with_reducible repeat (first | apply Kd.R_alloc | apply Kd.R_drewN | apply Kd.R_drew)); exact HO627.out) hb); have n2_ := Aside0.mk (Kd.R_below (by (with_reducible repeat (first | apply Kd.R_alloc | apply Kd.R_drewN | apply Kd.R_drew)); exact HO631.out) hb); have n3_ := Aside0.mk (below_step (by repeat first | exact HB.out | apply below_alloc | apply pw_below_drewN | apply below_drew1) hb); clear HO623; clear HO627; clear HO631; clear HB; have HO623 := n0_; have HO627 := n1_; have HO631 := n2_; have HB := n3_; clear n0_ n1_ n2_ n3_; (try clear hb)) | ((with_reducible refine gate_dst (N := 381) rfl ?_); (try (refine gate_guard (by rfl) ?_; dsimp only)); refine Kd.R_lit k45 _ 45 ?hg (N := 381) ?hd (xs := ([] : List (S45))) (inner := []) (ok := fun _ => True) (okp := fun _ => True) ?hr ?hp (fun _ hk => hk) trivial (Below.refl _ _) (Nat.le_refl _) (by simp) ?_; (case hd => rfl); (case hg => rfl); (case hr => first | (go_simp; done) | (go_simp; rfl)); (case hp => exact (Reps.none _ _)); intro v636 w126 ho127 hb hg_ hnew_; clear hg_ hnew_; (first | rw [← Ny635.out] at ho127 | (simp only [Int.reduceToNat] at ho127; rw [← Ny635.out] at ho127)); have n0_ := Aside0.mk (Kd.R_elder' (by (with_reducible repeat (first | apply Kd.R_alloc | apply Kd.R_drewN | apply Kd.R_drew)); exact HO623.out) (Kd.R_base ho127) hb); have n1_ := Aside0.mk (Kd.R_below (by (with_reducible repeat (first | apply Kd.R_alloc | apply Kd.R_drewN | apply Kd.R_drew)); exact HO627.out) hb); have n2_ := Aside0.mk (Kd.R_below (by (with_reducible repeat (first | apply Kd.R_alloc | apply Kd.R_drewN | apply Kd.R_drew)); exact HO631.out) hb); have n3_ := Aside0.mk (Kd.R_lower (Kd.R_new' ho127 (Kd.R_lt (by (with_reducible repeat (first | apply Kd.R_alloc | apply Kd.R_drewN | apply Kd.R_drew)); exact HO623.out))) (below_size (by repeat first | exact HB.out | apply below_alloc | apply pw_below_drewN | apply below_drew1))); have n4_ := Aside0.mk (below_step (by repeat first | exact HB.out | apply below_alloc | apply pw_below_drewN | apply below_drew1) hb); clear HO623; clear HO627; clear HO631; clear HB; have HO623 := n0_; have HO627 := n1_; have HO631 := n2_; have HO637 := n3_; have HB := n4_; clear n0_ n1_ n2_ n3_ n4_; clear hb ho127) | ((with_reducible refine gate_builtin (b := .append) (xs := #[.tmp 381, .tmp 382]) rfl ?_); (try (refine gate_guard (by rfl) ?_; dsimp only)); at_builtin; refine Kd.R_append_rows k45 (w0 := w) w.heap.size rfl (.tmp 381) (.tmp 382) 22 45 (.agg #[(.int .i64 0), (.int .i64 0)]) 16 rfl Try.underlying22 info45 rfl (by decide) (by omega) v636 y635 t620 _ _ _ (fun k_ => some k_ ≠ (.slice Ao110 t620.length co110 : Value).ownBlock) (fun _ => False) rfl rfl ?aO ?aR (fun _ _ h => h) (fun _ h => h.elim) ?aF ?aB ?aS ?aL ?_; (case aR => repeat (first | exact (Kd.R_reads' HO623.out).2.2 | with_reducible first | refine Kd.C_alloc ?_ _ | refine Kd.C_drewN ?_ _ | refine Kd.C_drew ?_)); (case aB => exact (by repeat first | exact HB.out | apply below_alloc | apply pw_below_drewN | apply below_drew1)); (case aF => exact (fun k_ hk => Kd.fresh' (Kd.R_lt (by (with_reducible repeat (first | apply Kd.R_alloc | apply Kd.R_drewN | apply Kd.R_drew)); exact HO623.out)) k_ hk)); (case aO => exact (by (with_reducible repeat (first | apply Kd.R_alloc | apply Kd.R_drewN | apply Kd.R_drew)); exact Kd.R_mono HO637.out (fun _ hk => hk.2))); (case aS => exact (below_size (by repeat first | exact HB.out | apply below_alloc | apply pw_below_drewN | apply below_drew1))); (case aL => have := LMc117.out; omega); intro v639 w128 ho hb hg hat; rw [← Ny638.out] at ho; have n0_ := Aside0.mk (Kd.R_after (ok := (fun _ => True)) (by (with_reducible repeat (first | apply Kd.R_alloc | apply Kd.R_drewN | apply Kd.R_drew)); exact HO623.out) hg hat); have n1_ := Aside0.mk (Kd.R_over' (by (with_reducible repeat (first | apply Kd.R_alloc | apply Kd.R_drewN | apply Kd.R_drew)); exact HO627.out) (Kd.R_typed (by (with_reducible repeat (first | apply Kd.R_alloc | apply Kd.R_drewN | apply Kd.R_drew)); exact HO637.out)) (by decide) hg); have n2_ := Aside0.mk (Kd.R_over' (by (with_reducible repeat (first | apply Kd.R_alloc | apply Kd.R_drewN | apply Kd.R_drew)); exact HO631.out) (Kd.R_typed (by (with_reducible repeat (first | apply Kd.R_alloc | apply Kd.R_drewN | apply Kd.R_drew)); exact HO637.out)) (by decide) hg); have n3_ := Aside0.mk (hb); have n4_ := Aside0.mk (ho); clear HO623; clear HO627; clear HO631; clear HB; clear HO637; have HO623 := n0_; have HO627 := n1_; have HO631 := n2_; have HB := n3_; have HO640 := n4_; clear n0_ n1_ n2_ n3_ n4_; clear ho hb hg hat) | ((with_reducible refine gate_builtin (b := .append) (xs := #[.tmp 383, .tmp 386]) rfl ?_); (try (refine gate_guard (by rfl) ?_; dsimp only)); at_builtin; refine Kd.R_append k45 (w0 := w) w.heap.size rfl (.tmp 383) (.tmp 386) 22 45 (.agg #[(.int .i64 0), (.int .i64 0)]) 16 rfl Try.underlying22 info45 rfl (by decide) (by omega) v639 y638 (⟨t621, 0⟩ : S45) [.int .i64 t621, .int .i64 0] (fun k_ => some k_ ≠ (.slice Ao110 t620.length co110 : Value).ownBlock) (fun _ => False) rfl rfl ?aP (fun _ hk => hk.elim) ?aF ?aO ?aB ?aS ?aL ?_; (case aP => exact k45_mkM _ _ _ (⟨t621, 0⟩ : S45)); (case aB => exact (by repeat first | exact HB.out | apply below_alloc | apply pw_below_drewN | apply below_drew1)); (case aF => exact (fun k_ hk => Kd.fresh' (Kd.R_lt (by (with_reducible repeat (first | apply Kd.R_alloc | apply Kd.R_drewN | apply Kd.R_drew)); exact HO623.out)) k_ hk)); (case aO => exact (by (with_reducible repeat (first | apply Kd.R_alloc | apply Kd.R_drewN | apply Kd.R_drew)); exact HO640.out)); (case aS => exact (below_size (by repeat first | exact HB.out | apply below_alloc | apply pw_below_drewN | apply below_drew1))); (case aL => have := LMc118.out; omega); intro v642 w129 ho hb hg hat; rw [← Ny641.out] at ho; have n0_ := Aside0.mk (Kd.R_after (ok := (fun _ => True)) (by (with_reducible repeat (first | apply Kd.R_alloc | apply Kd.R_drewN | apply Kd.R_drew)); exact HO623.out) hg hat); have n1_ := Aside0.mk (Kd.R_over' (by (with_reducible repeat (first | apply Kd.R_alloc | apply Kd.R_drewN | apply Kd.R_drew)); exact HO627.out) (Kd.R_typed (by (with_reducible repeat (first | apply Kd.R_alloc | apply Kd.R_drewN | apply Kd.R_drew)); exact HO640.out)) (by decide) hg); have n2_ := Aside0.mk (Kd.R_over' (by (with_reducible repeat (first | apply Kd.R_alloc | apply Kd.R_drewN | apply Kd.R_drew)); exact HO631.out) (Kd.R_typed (by (with_reducible repeat (first | apply Kd.R_alloc | apply Kd.R_drewN | apply Kd.R_drew)); exact HO640.out)) (by decide) hg); have n3_ := Aside0.mk (hb); have n4_ := Aside0.mk (ho); clear HO623; clear HO627; clear HO631; clear HB; clear HO640; have HO623 := n0_; have HO627 := n1_; have HO631 := n2_; have HB := n3_; have HO643 := n4_; clear n0_ n1_ n2_ n3_ n4_; clear ho hb hg hat; obtain ⟨Ao130, co130, eo130⟩ := Kd.R_slice HO643.out; subst eo130) | ((with_reducible refine gate_callee (f := 15) rfl ?_); refine goesL_ (some 388) rfl rfl Try.func15 (by kernel_rfl) rfl #[.slice Ao130 y641.length co130] rfl (by simp only [List.map_toArray, List.map_cons, List.map_nil] <;> rfl) ?_; (with_reducible refine (impl_SpokesOf.calls kj28 _ _ y641 t644 true _ ?side1 ?side2 A119.out).mono ?_); (case side1 => repeat (first | exact (Kd.R_reads' HO643.out).2.2 | with_reducible first | refine Kd.C_alloc ?_ _ | refine Kd.C_drewN ?_ _ | refine Kd.C_drew ?_)); (case side2 => exact (Kd.R_reads' HO643.out).2.1); rintro e w131 ⟨v646, rfl, ho0, hb⟩; refine ⟨_, rfl, ?_⟩; have n0_ := Aside0.mk (Kd.R_below (by (with_reducible repeat (first | apply Kd.R_alloc | apply Kd.R_drewN | apply Kd.R_drew)); exact HO623.out) hb); have n1_ := Aside0.mk (Kd.R_elder' (by (with_reducible repeat (first | apply Kd.R_alloc | apply Kd.R_drewN | apply Kd.R_drew)); exact HO627.out) (Kd.R_base ho0) hb); have n2_ := Aside0.mk (Kd.R_elder' (by (with_reducible repeat (first | apply Kd.R_alloc | apply Kd.R_drewN | apply Kd.R_drew)); exact HO631.out) (Kd.R_base ho0) hb); have n3_ := Aside0.mk (Kd.R_below (by (with_reducible repeat (first | apply Kd.R_alloc | apply Kd.R_drewN | apply Kd.R_drew)); exact HO643.out) hb); have n4_ := Aside0.mk (Kd.R_lower (Kd.R_new' (Kd.R_new' ho0 (Kd.R_lt (by (with_reducible repeat (first | apply Kd.R_alloc | apply Kd.R_drewN | apply Kd.R_drew)); exact HO627.out))) (Kd.R_lt (by (with_reducible repeat (first | apply Kd.R_alloc | apply Kd.R_drewN | apply Kd.R_drew)); exact HO631.out))) (below_size (by repeat first | exact HB.out | apply below_alloc | apply pw_below_drewN | apply below_drew1))); have n5_ := Aside0.mk (below_step (by repeat first | exact HB.out | apply below_alloc | apply pw_below_drewN | apply below_drew1) hb); clear HO623; clear HO627; clear HO631; clear HO643; clear HB; have HO623 := n0_; have HO627 := n1_; have HO631 := n2_; have HO643 := n3_; have HO647 := n4_; have HB := n5_; clear n0_ n1_ n2_ n3_ n4_ n5_; (try clear hb); (try clear ho0); obtain ⟨Ao132, co132, eo132⟩ := Kd.R_slice HO647.out; subst eo132))
       as_aux_lemma =>
       go_wp2_with (first | (go_at_call 21; (with_reducible refine (laws_gSame.calls kj28 _ _ t644 _ _ t624 true _ ?side1 ?side2 ?side3 ?side4 A123.out).mono ?_); (case side1 => repeat (first | exact (Kd.R_reads' HO647.out).2.2 | with_reducible first | refine Kd.C_alloc ?_ _ | refine Kd.C_drewN ?_ _ | refine Kd.C_drew ?_)); (case side2 => exact (Kd.R_reads' HO647.out).2.1); (case side3 => repeat (first | exact (Kd.R_reads' HO627.out).2.2 | with_reducible first | refine Kd.C_alloc ?_ _ | refine Kd.C_drewN ?_ _ | refine Kd.C_drew ?_)); (case side4 => exact (Kd.R_reads' HO627.out).2.1); rintro e w' ⟨rfl, ⟨nd, rfl⟩⟩))
       as_aux_lemma =>
       go_meet
       case rel => exact ⟨_, H', ⟨by have := HJ28.out; first | omega | exact Nat.le_refl _⟩, ⟨by repeat (first | exact HB.out | apply below_alloc | apply pw_below_drewN | apply below_drew1)⟩⟩
      ·replace c115 := Bool.eq_false_iff.mpr c115
       subst c115
       rw [if_neg (show ¬ (false = true) by decide)] at H
       try dsimp only at H
       have H' := Aside0.mk H
       clear H
       as_aux_lemma =>
       go_wp2
       as_aux_lemma =>
       go_meet
       case rel => exact ⟨_, H', ⟨by have := HJ28.out; first | omega | exact Nat.le_refl _⟩, ⟨by repeat (first | exact HB.out | apply below_alloc | apply pw_below_drewN | apply below_drew1)⟩⟩
     case rest =>
      as_aux_lemma =>
      clear HC108
      try clear c1
      try clear c105b0
      try clear c105b1
      try clear c105b2
      try clear c107
      obtain ⟨kq, HA, HJ107, HB⟩ := hcut
      cases kq with
      | zero => exact absurd HA.out (by simp [laws_FnStepsAround.j4])
      | succ kj107 =>
       have H := HA.out
       clear HA
       simp only [laws_FnStepsAround.j4] at H
       replace H := Option.bind_eq_some_iff.mp H
       obtain ⟨⟨t649, t650⟩, A1330, H⟩ := H
       try dsimp only at H
       have A133 := Aside0.mk A1330
       clear A1330
       replace H := Option.bind_eq_some_iff.mp H
       obtain ⟨⟨t653, t654⟩, A1340, H⟩ := H
       try dsimp only at H
       have A134 := Aside0.mk A1340
       clear A1340
       replace H := Option.bind_eq_some_iff.mp H
       obtain ⟨⟨t655, t656⟩, A1350, H⟩ := H
       try dsimp only at H
       have A135 := Aside0.mk A1350
       clear A1350
       replace H := Option.bind_eq_some_iff.mp H
       obtain ⟨⟨t657, t658⟩, A1360, H⟩ := H
       try dsimp only at H
       have A136 := Aside0.mk A1360
       clear A1360
       replace H := Option.bind_eq_some_iff.mp H
       obtain ⟨⟨t661, t662⟩, A1370, H⟩ := H
       try dsimp only at H
       have A137 := Aside0.mk A1370
       clear A1370
       replace H := Option.bind_eq_some_iff.mp H
       obtain ⟨⟨t663, t664⟩, A1380, H⟩ := H
       try dsimp only at H
       have A138 := Aside0.mk A1380
       clear A1380
       replace H := Option.bind_eq_some_iff.mp H
       obtain ⟨⟨t665, t666⟩, A1390, H⟩ := H
       try dsimp only at H
       have A139 := Aside0.mk A1390
       clear A1390
       replace H := Option.bind_eq_some_iff.mp H
       obtain ⟨⟨t671, t672⟩, A1400, H⟩ := H
       try dsimp only at H
       have A140 := Aside0.mk A1400
       clear A1400
       replace H := Option.bind_eq_some_iff.mp H
       obtain ⟨⟨t673, t674⟩, A1410, H⟩ := H
       try dsimp only at H
       have A141 := Aside0.mk A1410
       clear A1410
       have c142 : ¬ ((t654 != t656) = true) := fun c142 => by
        rw [if_pos c142] at H
        exact absurd H (by simp)
       rw [if_neg c142] at H
       have c142b0 : (t654 != t656) = false := by simpa using c142
       (try (have c142b1 : decide (t654 = t656) = true := by simpa using c142))
       (try (have c142b2 : (t654 == t656) = true := by simpa using c142))
       clear c142
       have c143 : t653 = t655 := Classical.byContradiction fun c143 => by
        rw [if_neg c143] at H
        exact absurd H (by simp)
       rw [if_pos c143] at H
       have c143b0 : (t653 == t655) = true := beq_iff_eq.mpr c143
       have c143b1 : (t653 != t655) = false := bne_eq_false_iff_eq.mpr c143
       clear c143
       have c144 : ¬ ((t662 != t664) = true) := fun c144 => by
        rw [if_pos c144] at H
        exact absurd H (by simp)
       rw [if_neg c144] at H
       have c144b0 : (t662 != t664) = false := by simpa using c144
       (try (have c144b1 : decide (t662 = t664) = true := by simpa using c144))
       (try (have c144b2 : (t662 == t664) = true := by simpa using c144))
       clear c144
       have c145 : t661 = t663 := Classical.byContradiction fun c145 => by
        rw [if_neg c145] at H
        exact absurd H (by simp)
       rw [if_pos c145] at H
       have c145b0 : (t661 == t663) = true := beq_iff_eq.mpr c145
       have c145b1 : (t661 != t663) = false := bne_eq_false_iff_eq.mpr c145
       clear c145
       have c146 : ¬ ((t672 != t674) = true) := fun c146 => by
        rw [if_pos c146] at H
        exact absurd H (by simp)
       rw [if_neg c146] at H
       have c146b0 : (t672 != t674) = false := by simpa using c146
       (try (have c146b1 : decide (t672 = t674) = true := by simpa using c146))
       (try (have c146b2 : (t672 == t674) = true := by simpa using c146))
       clear c146
       have c147 : t671 = t673 := Classical.byContradiction fun c147 => by
        rw [if_neg c147] at H
        exact absurd H (by simp)
       rw [if_pos c147] at H
       have c147b0 : (t671 == t673) = true := beq_iff_eq.mpr c147
       have c147b1 : (t671 != t673) = false := bne_eq_false_iff_eq.mpr c147
       clear c147
       have HC148 := Aside0.mk H
       clear H
       go_upto_if 491 with (first | ((with_reducible refine gate_callee (f := 41) rfl ?_); refine goesL_ (some 414) rfl rfl Try.func41 (by kernel_rfl) rfl #[.slice A1 l1.length c1] rfl (by simp only [List.map_toArray, List.map_cons, List.map_nil] <;> rfl) ?_; (with_reducible refine (spec_DrawTimesTogether.calls kj107 _ _ l1 t649 t650 _ ?side1 ?side2 A133.out).mono ?_); (case side1 => repeat (first | exact (Kd.C_below HR1.out HB.out) | with_reducible first | refine Kd.C_alloc ?_ _ | refine Kd.C_drewN ?_ _ | refine Kd.C_drew ?_)); (case side2 => exact HC1.out); rintro e w149 ⟨v651, rfl, ho0, hb⟩; refine ⟨_, rfl, ?_⟩; have n0_ := Aside0.mk (Kd.R_lower ho0 (below_size (by repeat first | exact HB.out | apply below_alloc | apply pw_below_drewN | apply below_drew1))); have n1_ := Aside0.mk (below_step (by repeat first | exact HB.out | apply below_alloc | apply pw_below_drewN | apply below_drew1) hb); clear HB; have HO652 := n0_; have HB := n1_; clear n0_ n1_; (try clear hb); (try clear ho0); obtain ⟨Ao150, co150, eo150⟩ := Kd.R_slice HO652.out; subst eo150) | ((with_reducible refine gate_callee (f := 42) rfl ?_); refine goesL_ (some 420) rfl rfl Try.func42 (by kernel_rfl) rfl #[.slice Ao150 t649.length co150, .int .i64 t650] rfl (by simp only [List.map_toArray, List.map_cons, List.map_nil] <;> rfl) ?_; (with_reducible refine (impl_TimesTogether.calls kj107 _ _ t649 t650 t653 t654 _ ?side1 ?side2 A134.out).mono ?_); (case side1 => repeat (first | exact (Kd.R_reads' HO652.out).2.2 | with_reducible first | refine Kd.C_alloc ?_ _ | refine Kd.C_drewN ?_ _ | refine Kd.C_drew ?_)); (case side2 => exact (Kd.R_reads' HO652.out).2.1); rintro e w151 ⟨rfl, hb⟩; refine ⟨_, rfl, ?_⟩; have n0_ := Aside0.mk (Kd.R_below (by (with_reducible repeat (first | apply Kd.R_alloc | apply Kd.R_drewN | apply Kd.R_drew)); exact HO652.out) hb); have n1_ := Aside0.mk (below_step (by repeat first | exact HB.out | apply below_alloc | apply pw_below_drewN | apply below_drew1) hb); clear HO652; clear HB; have HO652 := n0_; have HB := n1_; clear n0_ n1_; (try clear hb)) | ((with_reducible refine gate_callee (f := 43) rfl ?_); refine goesL_ (some 426) rfl rfl Try.func43 (by kernel_rfl) rfl #[.slice Ao150 t649.length co150, .int .i64 t650] rfl (by simp only [List.map_toArray, List.map_cons, List.map_nil] <;> rfl) ?_; (with_reducible refine (spec_TimesTogether.calls kj107 _ _ t649 t650 t655 t656 _ ?side1 ?side2 A135.out).mono ?_); (case side1 => repeat (first | exact (Kd.R_reads' HO652.out).2.2 | with_reducible first | refine Kd.C_alloc ?_ _ | refine Kd.C_drewN ?_ _ | refine Kd.C_drew ?_)); (case side2 => exact (Kd.R_reads' HO652.out).2.1); rintro e w152 ⟨rfl, hb⟩; refine ⟨_, rfl, ?_⟩; have n0_ := Aside0.mk (Kd.R_below (by (with_reducible repeat (first | apply Kd.R_alloc | apply Kd.R_drewN | apply Kd.R_drew)); exact HO652.out) hb); have n1_ := Aside0.mk (below_step (by repeat first | exact HB.out | apply below_alloc | apply pw_below_drewN | apply below_drew1) hb); clear HO652; clear HB; have HO652 := n0_; have HB := n1_; clear n0_ n1_; (try clear hb)) | ((with_reducible refine gate_callee (f := 44) rfl ?_); refine goesL_ (some 431) rfl rfl Try.func44 (by kernel_rfl) rfl #[.slice A1 l1.length c1] rfl (by simp only [List.map_toArray, List.map_cons, List.map_nil] <;> rfl) ?_; (with_reducible refine (spec_DrawCountStep.calls kj107 _ _ l1 t657 t658 _ ?side1 ?side2 A136.out).mono ?_); (case side1 => repeat (first | exact (Kd.C_below HR1.out HB.out) | with_reducible first | refine Kd.C_alloc ?_ _ | refine Kd.C_drewN ?_ _ | refine Kd.C_drew ?_)); (case side2 => exact HC1.out); rintro e w153 ⟨v659, rfl, ho0, hb⟩; refine ⟨_, rfl, ?_⟩; have n0_ := Aside0.mk (Kd.R_elder' (by (with_reducible repeat (first | apply Kd.R_alloc | apply Kd.R_drewN | apply Kd.R_drew)); exact HO652.out) (Kd.R_base ho0) hb); have n1_ := Aside0.mk (Kd.R_lower (Kd.R_new' ho0 (Kd.R_lt (by (with_reducible repeat (first | apply Kd.R_alloc | apply Kd.R_drewN | apply Kd.R_drew)); exact HO652.out))) (below_size (by repeat first | exact HB.out | apply below_alloc | apply pw_below_drewN | apply below_drew1))); have n2_ := Aside0.mk (below_step (by repeat first | exact HB.out | apply below_alloc | apply pw_below_drewN | apply below_drew1) hb); clear HO652; clear HB; have HO652 := n0_; have HO660 := n1_; have HB := n2_; clear n0_ n1_ n2_; (try clear hb); (try clear ho0); obtain ⟨Ao154, co154, eo154⟩ := Kd.R_slice HO660.out; subst eo154) | ((with_reducible refine gate_callee (f := 36) rfl ?_); refine goesL_ (some 437) rfl rfl Try.func36 (by kernel_rfl) rfl #[.slice Ao154 t657.length co154, .int .i64 t658] rfl (by simp only [List.map_toArray, List.map_cons, List.map_nil] <;> rfl) ?_; (with_reducible refine (impl_CountStep.calls kj107 _ _ t657 t658 t661 t662 _ ?side1 ?side2 A137.out).mono ?_); (case side1 => repeat (first | exact (Kd.R_reads' HO660.out).2.2 | with_reducible first | refine Kd.C_alloc ?_ _ | refine Kd.C_drewN ?_ _ | refine Kd.C_drew ?_)); (case side2 => exact (Kd.R_reads' HO660.out).2.1); rintro e w155 ⟨rfl, hb⟩; refine ⟨_, rfl, ?_⟩; have n0_ := Aside0.mk (Kd.R_below (by (with_reducible repeat (first | apply Kd.R_alloc | apply Kd.R_drewN | apply Kd.R_drew)); exact HO652.out) hb); have n1_ := Aside0.mk (Kd.R_below (by (with_reducible repeat (first | apply Kd.R_alloc | apply Kd.R_drewN | apply Kd.R_drew)); exact HO660.out) hb); have n2_ := Aside0.mk (below_step (by repeat first | exact HB.out | apply below_alloc | apply pw_below_drewN | apply below_drew1) hb); clear HO652; clear HO660; clear HB; have HO652 := n0_; have HO660 := n1_; have HB := n2_; clear n0_ n1_ n2_; (try clear hb)) | ((with_reducible refine gate_callee (f := 45) rfl ?_); refine goesL_ (some 443) rfl rfl Try.func45 (by kernel_rfl) rfl #[.slice Ao154 t657.length co154, .int .i64 t658] rfl (by simp only [List.map_toArray, List.map_cons, List.map_nil] <;> rfl) ?_; (with_reducible refine (spec_CountStep.calls kj107 _ _ t657 t658 t663 t664 _ ?side1 ?side2 A138.out).mono ?_); (case side1 => repeat (first | exact (Kd.R_reads' HO660.out).2.2 | with_reducible first | refine Kd.C_alloc ?_ _ | refine Kd.C_drewN ?_ _ | refine Kd.C_drew ?_)); (case side2 => exact (Kd.R_reads' HO660.out).2.1); rintro e w156 ⟨rfl, hb⟩; refine ⟨_, rfl, ?_⟩; have n0_ := Aside0.mk (Kd.R_below (by (with_reducible repeat (first | apply Kd.R_alloc | apply Kd.R_drewN | apply Kd.R_drew)); exact HO652.out) hb); have n1_ := Aside0.mk (Kd.R_below (by (with_reducible repeat (first | apply Kd.R_alloc | apply Kd.R_drewN | apply Kd.R_drew)); exact HO660.out) hb); have n2_ := Aside0.mk (below_step (by repeat first | exact HB.out | apply below_alloc | apply pw_below_drewN | apply below_drew1) hb); clear HO652; clear HO660; clear HB; have HO652 := n0_; have HO660 := n1_; have HB := n2_; clear n0_ n1_ n2_; (try clear hb)) | ((with_reducible refine gate_callee (f := 46) rfl ?_); refine goesL_ (some 448) rfl rfl Try.func46 (by kernel_rfl) rfl #[.slice A1 l1.length c1] rfl (by simp only [List.map_toArray, List.map_cons, List.map_nil] <;> rfl) ?_; (with_reducible refine (spec_DrawFirstRun.calls kj107 _ _ l1 t665 t666 _ ?side1 ?side2 A139.out).mono ?_); (case side1 => repeat (first | exact (Kd.C_below HR1.out HB.out) | with_reducible first | refine Kd.C_alloc ?_ _ | refine Kd.C_drewN ?_ _ | refine Kd.C_drew ?_)); (case side2 => exact HC1.out); rintro e w157 ⟨v667, v669, rfl, ho0, ho1, hb⟩; refine ⟨_, rfl, ?_⟩; have n0_ := Aside0.mk (Kd.R_elder' (by (with_reducible repeat (first | apply Kd.R_alloc | apply Kd.R_drewN | apply Kd.R_drew)); exact HO652.out) (Kd.R_base ho0) hb); have n1_ := Aside0.mk (Kd.R_elder' (by (with_reducible repeat (first | apply Kd.R_alloc | apply Kd.R_drewN | apply Kd.R_drew)); exact HO660.out) (Kd.R_base ho0) hb); have n2_ := Aside0.mk (Kd.R_lower (Kd.R_new' (Kd.R_new' ho0 (Kd.R_lt (by (with_reducible repeat (first | apply Kd.R_alloc | apply Kd.R_drewN | apply Kd.R_drew)); exact HO652.out))) (Kd.R_lt (by (with_reducible repeat (first | apply Kd.R_alloc | apply Kd.R_drewN | apply Kd.R_drew)); exact HO660.out))) (below_size (by repeat first | exact HB.out | apply below_alloc | apply pw_below_drewN | apply below_drew1))); have n3_ := Aside0.mk (Kd.R_lower ho1 (below_size (by repeat first | exact HB.out | apply below_alloc | apply pw_below_drewN | apply below_drew1))); have n4_ := Aside0.mk (below_step (by repeat first | exact HB.out | apply below_alloc | apply pw_below_drewN | apply below_drew1) hb); clear HO652; clear HO660; clear HB; have HO652 := n0_; have HO660 := n1_; have HO668 := n2_; have HO670 := n3_; have HB := n4_; clear n0_ n1_ n2_ n3_ n4_; (try clear hb); (try clear ho0); (try clear ho1); obtain ⟨Ao158, co158, eo158⟩ := Kd.R_slice HO668.out; subst eo158; obtain ⟨Ao159, co159, eo159⟩ := Kd.R_slice HO670.out; subst eo159) | ((with_reducible refine gate_callee (f := 47) rfl ?_); refine goesL_ (some 454) rfl rfl Try.func47 (by kernel_rfl) rfl #[.slice Ao158 t665.length co158, .slice Ao159 t666.length co159] rfl (by simp only [List.map_toArray, List.map_cons, List.map_nil] <;> rfl) ?_; (with_reducible refine (impl_FirstRun.calls kj107 _ _ t665 _ _ t666 t671 t672 _ ?side1 ?side2 ?side3 ?side4 A140.out).mono ?_); (case side1 => repeat (first | exact (Kd.R_reads' HO668.out).2.2 | with_reducible first | refine Kd.C_alloc ?_ _ | refine Kd.C_drewN ?_ _ | refine Kd.C_drew ?_)); (case side2 => exact (Kd.R_reads' HO668.out).2.1); (case side3 => repeat (first | exact (Kd.R_reads' HO670.out).2.2 | with_reducible first | refine Kd.C_alloc ?_ _ | refine Kd.C_drewN ?_ _ | refine Kd.C_drew ?_)); (case side4 => exact (Kd.R_reads' HO670.out).2.1); rintro e w160 ⟨rfl, hb⟩; refine ⟨_, rfl, ?_⟩; have n0_ := Aside0.mk (Kd.R_below (by (with_reducible repeat (first | apply Kd.R_alloc | apply Kd.R_drewN | apply Kd.R_drew)); exact HO652.out) hb); have n1_ := Aside0.mk (Kd.R_below (by (with_reducible repeat (first | apply Kd.R_alloc | apply Kd.R_drewN | apply Kd.R_drew)); exact HO660.out) hb); have n2_ := Aside0.mk (Kd.R_below (by (with_reducible repeat (first | apply Kd.R_alloc | apply Kd.R_drewN | apply Kd.R_drew)); exact HO668.out) hb); have n3_ := Aside0.mk (Kd.R_below (by (with_reducible repeat (first | apply Kd.R_alloc | apply Kd.R_drewN | apply Kd.R_drew)); exact HO670.out) hb); have n4_ := Aside0.mk (below_step (by repeat first | exact HB.out | apply below_alloc | apply pw_below_drewN | apply below_drew1) hb); clear HO652; clear HO660; clear HO668; clear HO670; clear HB; have HO652 := n0_; have HO660 := n1_; have HO668 := n2_; have HO670 := n3_; have HB := n4_; clear n0_ n1_ n2_ n3_ n4_; (try clear hb)) | ((with_reducible refine gate_callee (f := 48) rfl ?_); refine goesL_ (some 460) rfl rfl Try.func48 (by kernel_rfl) rfl #[.slice Ao158 t665.length co158, .slice Ao159 t666.length co159] rfl (by simp only [List.map_toArray, List.map_cons, List.map_nil] <;> rfl) ?_; (with_reducible refine (spec_FirstRun.calls kj107 _ _ t665 _ _ t666 t673 t674 _ ?side1 ?side2 ?side3 ?side4 A141.out).mono ?_); (case side1 => repeat (first | exact (Kd.R_reads' HO668.out).2.2 | with_reducible first | refine Kd.C_alloc ?_ _ | refine Kd.C_drewN ?_ _ | refine Kd.C_drew ?_)); (case side2 => exact (Kd.R_reads' HO668.out).2.1); (case side3 => repeat (first | exact (Kd.R_reads' HO670.out).2.2 | with_reducible first | refine Kd.C_alloc ?_ _ | refine Kd.C_drewN ?_ _ | refine Kd.C_drew ?_)); (case side4 => exact (Kd.R_reads' HO670.out).2.1); rintro e w161 ⟨rfl, hb⟩; refine ⟨_, rfl, ?_⟩; have n0_ := Aside0.mk (Kd.R_below (by (with_reducible repeat (first | apply Kd.R_alloc | apply Kd.R_drewN | apply Kd.R_drew)); exact HO652.out) hb); have n1_ := Aside0.mk (Kd.R_below (by (with_reducible repeat (first | apply Kd.R_alloc | apply Kd.R_drewN | apply Kd.R_drew)); exact HO660.out) hb); have n2_ := Aside0.mk (Kd.R_below (by (with_reducible repeat (first | apply Kd.R_alloc | apply Kd.R_drewN | apply Kd.R_drew)); exact HO668.out) hb); have n3_ := Aside0.mk (Kd.R_below (by (with_reducible repeat (first | apply Kd.R_alloc | apply Kd.R_drewN | apply Kd.R_drew)); exact HO670.out) hb); have n4_ := Aside0.mk (below_step (by repeat first | exact HB.out | apply below_alloc | apply pw_below_drewN | apply below_drew1) hb); clear HO652; clear HO660; clear HO668; clear HO670; clear HB; have HO652 := n0_; have HO660 := n1_; have HO668 := n2_; have HO670 := n3_; have HB := n4_; clear n0_ n1_ n2_ n3_ n4_; (try clear hb)))
       (try simp only [Act.put, List.setIfInBounds_toArray, List.set_cons_zero, List.set_cons_succ])
       go_cut [] from 9999 to 9999 (fun wc => ∃ (kq : Nat), Aside0 (laws_FnStepsAround.j5 kq t665 t666 t671 t672 = some r) ∧ Aside0 (kq ≤ kj107) ∧ Aside0 (Kd.R k45 45 wc w.heap.size (fun _ => True) (.slice Ao158 t665.length co158) t665) ∧ Aside0 (Kd.R (Kd.int .i64) 3 wc w.heap.size (fun _ => True) (.slice Ao159 t666.length co159) t666) ∧ Aside0 (Below w.heap.size w wc))
       case first =>
        as_aux_lemma =>
        have H := HC148.out
        clear HC148
        by_cases c162 : t654 = true
        ·subst c162
         rw [if_pos rfl] at H
         try dsimp only at H
         replace H := Option.bind_eq_some_iff.mp H
         obtain ⟨⟨t675, t676⟩, A1630, H⟩ := H
         try dsimp only at H
         have A163 := Aside0.mk A1630
         clear A1630
         have c164 : t676 = true := Classical.byContradiction fun c164 => by
          replace c164 := Bool.eq_false_iff.mpr c164
          subst c164
          rw [if_neg (show ¬ (false = true) by decide)] at H
          try dsimp only at H
          exact absurd H (by simp)
         subst c164
         rw [if_pos rfl] at H
         try dsimp only at H
         have c165 : ¬ (t653 < t675) := fun c165 => by
          rw [if_pos c165] at H
          exact absurd H (by simp)
         rw [if_neg c165] at H
         have c165b0 : decide (t653 < t675) = false := decide_eq_false c165
         clear c165
         (first | rw [c165b0] | (simp only [i64_w, i32_w]; rw [c165b0]) | skip)
         have H' := Aside0.mk H
         clear H
         as_aux_lemma =>
         go_wp2_with (first | ((with_reducible refine gate_callee (f := 36) rfl ?_); refine goesL_ (some 495) rfl rfl Try.func36 (by kernel_rfl) rfl #[.slice Ao150 t649.length co150, .int .i64 t650] rfl (by simp only [List.map_toArray, List.map_cons, List.map_nil] <;> rfl) ?_; (with_reducible refine (impl_CountStep.calls kj107 _ _ t649 t650 t675 true _ ?side1 ?side2 A163.out).mono ?_); (case side1 => repeat (first | exact (Kd.R_reads' HO652.out).2.2 | with_reducible first | refine Kd.C_alloc ?_ _ | refine Kd.C_drewN ?_ _ | refine Kd.C_drew ?_)); (case side2 => exact (Kd.R_reads' HO652.out).2.1); rintro e w166 ⟨rfl, hb⟩; refine ⟨_, rfl, ?_⟩; have n0_ := Aside0.mk (Kd.R_below (by (with_reducible repeat (first | apply Kd.R_alloc | apply Kd.R_drewN | apply Kd.R_drew)); exact HO652.out) hb); have n1_ := Aside0.mk (Kd.R_below (by (with_reducible repeat (first | apply Kd.R_alloc | apply Kd.R_drewN | apply Kd.R_drew)); exact HO660.out) hb); have n2_ := Aside0.mk (Kd.R_below (by (with_reducible repeat (first | apply Kd.R_alloc | apply Kd.R_drewN | apply Kd.R_drew)); exact HO668.out) hb); have n3_ := Aside0.mk (Kd.R_below (by (with_reducible repeat (first | apply Kd.R_alloc | apply Kd.R_drewN | apply Kd.R_drew)); exact HO670.out) hb); have n4_ := Aside0.mk (below_step (by repeat first | exact HB.out | apply below_alloc | apply pw_below_drewN | apply below_drew1) hb); clear HO652; clear HO660; clear HO668; clear HO670; clear HB; have HO652 := n0_; have HO660 := n1_; have HO668 := n2_; have HO670 := n3_; have HB := n4_; clear n0_ n1_ n2_ n3_ n4_; (try clear hb)))
         as_aux_lemma =>
         go_meet
         case rel => exact ⟨_, H', ⟨by have := HJ28.out; have := HJ107.out; first | omega | exact Nat.le_refl _⟩, ⟨by (with_reducible repeat (first | apply Kd.R_alloc | apply Kd.R_drewN | apply Kd.R_drew)); exact Kd.R_mono HO668.out (fun _ hk => trivial)⟩, ⟨by (with_reducible repeat (first | apply Kd.R_alloc | apply Kd.R_drewN | apply Kd.R_drew)); exact HO670.out⟩, ⟨by repeat (first | exact HB.out | apply below_alloc | apply pw_below_drewN | apply below_drew1)⟩⟩
        ·replace c162 := Bool.eq_false_iff.mpr c162
         subst c162
         rw [if_neg (show ¬ (false = true) by decide)] at H
         try dsimp only at H
         have H' := Aside0.mk H
         clear H
         as_aux_lemma =>
         go_wp2
         as_aux_lemma =>
         go_meet
         case rel => exact ⟨_, H', ⟨by have := HJ28.out; have := HJ107.out; first | omega | exact Nat.le_refl _⟩, ⟨by (with_reducible repeat (first | apply Kd.R_alloc | apply Kd.R_drewN | apply Kd.R_drew)); exact Kd.R_mono HO668.out (fun _ hk => trivial)⟩, ⟨by (with_reducible repeat (first | apply Kd.R_alloc | apply Kd.R_drewN | apply Kd.R_drew)); exact HO670.out⟩, ⟨by repeat (first | exact HB.out | apply below_alloc | apply pw_below_drewN | apply below_drew1)⟩⟩
       case rest =>
        as_aux_lemma =>
        clear HC148
        try clear c1
        try clear c142b0
        try clear c142b1
        try clear c142b2
        try clear c143b0
        try clear c143b1
        try clear c144b0
        try clear c144b1
        try clear c144b2
        try clear c145b0
        try clear c145b1
        try clear c146b0
        try clear c146b1
        try clear c146b2
        try clear c147b0
        try clear c147b1
        obtain ⟨kq, HA, HJ147, HO_63, HO_64, HB⟩ := hcut
        cases kq with
        | zero => exact absurd HA.out (by simp [laws_FnStepsAround.j5])
        | succ kj147 =>
         have H := HA.out
         clear HA
         simp only [laws_FnStepsAround.j5] at H
         by_cases c167 : t672 = true
         ·subst c167
          rw [if_pos rfl] at H
          try dsimp only at H
          have H' := Aside0.mk H
          clear H
          as_aux_lemma =>
          go_wp2
          as_aux_lemma =>
          go_loopg [71, 509] kj147 (fun kq v71 v509 w' => ∃ (x71_4 : Int) (x509_4 : Int), v71 = .int .i64 x71_4 ∧ v509 = .int .i64 x509_4 ∧ Aside0 (laws_FnStepsAround.l3 kq t665 x71_4 t666 (t666.length : Int) x509_4 = some r) ∧ Aside0 (kq ≤ kj147) ∧ Aside0 (Kd.R k45 45 w' w.heap.size (fun _ => True) (.slice Ao158 t665.length co158) t665) ∧ Aside0 (Kd.R (Kd.int .i64) 3 w' w.heap.size (fun _ => True) (.slice Ao159 t666.length co159) t666) ∧ Aside0 (Below w.heap.size w w'))
          case atStart => exact ⟨(t671), (0), (by first | rfl | (simp; done) | (simp [*]; done)), (by first | rfl | (simp; done) | (simp [*]; done)), H', ⟨Nat.le_refl _⟩, ⟨by (with_reducible repeat (first | apply Kd.R_alloc | apply Kd.R_drewN | apply Kd.R_drew)); exact HO_63.out⟩, ⟨by (with_reducible repeat (first | apply Kd.R_alloc | apply Kd.R_drewN | apply Kd.R_drew)); exact HO_64.out⟩, ⟨by repeat (first | exact HB.out | apply below_alloc | apply pw_below_drewN | apply below_drew1)⟩⟩
          case round =>
           as_aux_lemma =>
           clear H'
           try clear c167
           obtain ⟨x71_4, x509_4, rfl, rfl, HA, HK4, HO_63, HO_507, HB⟩ := hrel
           cases gk with
           | zero => exact absurd HA.out (by simp [laws_FnStepsAround.l3])
           | succ k4 =>
            have H := HA.out
            clear HA
            simp only [laws_FnStepsAround.l3] at H
            by_cases c168 : x509_4 < (t666.length : Int)
            ·as_aux_lemma =>
             rw [if_pos c168] at H
             have c168b0 : decide (x509_4 < (t666.length : Int)) = true := decide_eq_true c168
             clear c168
             have c169 : 0 ≤ x509_4 := Classical.byContradiction fun c169 => by
              rw [if_neg c169] at H
              exact absurd H (by simp)
             rw [if_pos c169] at H
             have c169b0 : decide (0 ≤ x509_4) = true := decide_eq_true c169
             clear c169
             have c170 : x509_4 < (t666.length : Int) := Classical.byContradiction fun c170 => by
              rw [if_neg c170] at H
              exact absurd H (by simp)
             rw [if_pos c170] at H
             have c170b0 : decide (x509_4 < (t666.length : Int)) = true := decide_eq_true c170
             clear c170
             replace H := Option.bind_eq_some_iff.mp H
             obtain ⟨⟨t678, t679⟩, A1710, H⟩ := H
             try dsimp only at H
             have A171 := Aside0.mk A1710
             clear A1710
             have c172 : t679 = true := Classical.byContradiction fun c172 => by
              replace c172 := Bool.eq_false_iff.mpr c172
              subst c172
              rw [if_neg (show ¬ (false = true) by decide)] at H
              try dsimp only at H
              exact absurd H (by simp)
             subst c172
             rw [if_pos rfl] at H
             try dsimp only at H
             have c173 : t678 = true := Classical.byContradiction fun c173 => by
              replace c173 := Bool.eq_false_iff.mpr c173
              subst c173
              rw [if_neg (show ¬ (false = true) by decide)] at H
              try dsimp only at H
              exact absurd H (by simp)
             subst c173
             rw [if_pos rfl] at H
             try dsimp only at H
             have H' := Aside0.mk H
             clear H
             have p677 : 0 ≤ (x509_4 : Int) := of_decide_eq_true (by first | (with_reducible assumption) | assumption)
             have q677 : x509_4 < (t666.length : Int) := of_decide_eq_true (by first | (with_reducible assumption) | assumption)
             obtain ⟨ad677, e677, hx677_0⟩ := Kd.at_int (Kd.R_reads' HO_507.out).2.2 x509_4 p677 q677
             cases e677
             replace p677 := eq_true p677
             replace q677 := eq_true q677
             as_aux_lemma =>
             go_wp2_with (first | ((with_reducible refine gate_callee (f := 11) rfl ?_); refine goesL_ (some 518) rfl rfl Try.func11 (by kernel_rfl) rfl #[.slice Ao158 t665.length co158, .int .i64 (wrap64 (x71_4 + (rd t666 x509_4)))] rfl (by simp only [List.map_toArray, List.map_cons, List.map_nil] <;> rfl) ?_; (with_reducible refine (impl_IsSpoke.calls k4 _ _ t665 (wrap64 (x71_4 + (rd t666 x509_4))) true true _ ?side1 ?side2 A171.out).mono ?_); (case side1 => repeat (first | exact (Kd.R_reads' HO_63.out).2.2 | with_reducible first | refine Kd.C_alloc ?_ _ | refine Kd.C_drewN ?_ _ | refine Kd.C_drew ?_)); (case side2 => exact (Kd.R_reads' HO_63.out).2.1); rintro e w174 ⟨rfl, hb⟩; refine ⟨_, rfl, ?_⟩; have n0_ := Aside0.mk (Kd.R_below (by (with_reducible repeat (first | apply Kd.R_alloc | apply Kd.R_drewN | apply Kd.R_drew)); exact HO_63.out) hb); have n1_ := Aside0.mk (Kd.R_below (by (with_reducible repeat (first | apply Kd.R_alloc | apply Kd.R_drewN | apply Kd.R_drew)); exact HO_507.out) hb); have n2_ := Aside0.mk (below_step (by repeat first | exact HB.out | apply below_alloc | apply pw_below_drewN | apply below_drew1) hb); clear HO_63; clear HO_507; clear HB; have HO_63 := n0_; have HO_507 := n1_; have HB := n2_; clear n0_ n1_ n2_; (try clear hb)))
             as_aux_lemma =>
             go_loopg [76] k4 (fun kq v76 w' => ∃ (x76_5 : Int), v76 = .int .i64 x76_5 ∧ Aside0 (laws_FnStepsAround.l4 kq t665 x71_4 (rd t666 x509_4) x76_5 t666 (t666.length : Int) x509_4 = some r) ∧ Aside0 (kq ≤ k4) ∧ Aside0 (Kd.R k45 45 w' w.heap.size (fun _ => True) (.slice Ao158 t665.length co158) t665) ∧ Aside0 (Kd.R (Kd.int .i64) 3 w' w.heap.size (fun _ => True) (.slice (some ad677) t666.length co159) t666) ∧ Aside0 (Below w.heap.size w w'))
             case atStart => exact ⟨(1), (by first | rfl | (simp; done) | (simp [*]; done)), H', ⟨Nat.le_refl _⟩, ⟨by (with_reducible repeat (first | apply Kd.R_alloc | apply Kd.R_drewN | apply Kd.R_drew)); exact HO_63.out⟩, ⟨by (with_reducible repeat (first | apply Kd.R_alloc | apply Kd.R_drewN | apply Kd.R_drew)); exact HO_507.out⟩, ⟨by repeat (first | exact HB.out | apply below_alloc | apply pw_below_drewN | apply below_drew1)⟩⟩
             case round =>
              as_aux_lemma =>
              clear H'
              try clear c168b0
              try clear c169b0
              try clear c170b0
              try clear c172
              try clear c173
              try clear hx677_0
              try clear p677
              try clear q677
              obtain ⟨x76_5, rfl, HA, HK5, HO_63, HO_507, HB⟩ := hrel
              cases gk with
              | zero => exact absurd HA.out (by simp [laws_FnStepsAround.l4])
              | succ k5 =>
               have H := HA.out
               clear HA
               simp only [laws_FnStepsAround.l4] at H
               by_cases c175 : x76_5 < (rd t666 x509_4)
               ·as_aux_lemma =>
                rw [if_pos c175] at H
                have c175b0 : decide (x76_5 < (rd t666 x509_4)) = true := decide_eq_true c175
                clear c175
                replace H := Option.bind_eq_some_iff.mp H
                obtain ⟨⟨t680, t681⟩, A1760, H⟩ := H
                try dsimp only at H
                have A176 := Aside0.mk A1760
                clear A1760
                have c177 : t681 = true := Classical.byContradiction fun c177 => by
                 replace c177 := Bool.eq_false_iff.mpr c177
                 subst c177
                 rw [if_neg (show ¬ (false = true) by decide)] at H
                 try dsimp only at H
                 exact absurd H (by simp)
                subst c177
                rw [if_pos rfl] at H
                try dsimp only at H
                have c178 : ¬ (t680 = true) := fun c178 => by
                 subst c178
                 rw [if_pos rfl] at H
                 try dsimp only at H
                 exact absurd H (by simp)
                replace c178 := Bool.eq_false_iff.mpr c178
                subst c178
                rw [if_neg (show ¬ (false = true) by decide)] at H
                try dsimp only at H
                have H' := Aside0.mk H
                clear H
                as_aux_lemma =>
                go_wp2_with (first | ((with_reducible refine gate_callee (f := 11) rfl ?_); refine goesL_ (some 537) rfl rfl Try.func11 (by kernel_rfl) rfl #[.slice Ao158 t665.length co158, .int .i64 (wrap64 (x71_4 + x76_5))] rfl (by simp only [List.map_toArray, List.map_cons, List.map_nil] <;> rfl) ?_; (with_reducible refine (impl_IsSpoke.calls k5 _ _ t665 (wrap64 (x71_4 + x76_5)) false true _ ?side1 ?side2 A176.out).mono ?_); (case side1 => repeat (first | exact (Kd.R_reads' HO_63.out).2.2 | with_reducible first | refine Kd.C_alloc ?_ _ | refine Kd.C_drewN ?_ _ | refine Kd.C_drew ?_)); (case side2 => exact (Kd.R_reads' HO_63.out).2.1); rintro e w179 ⟨rfl, hb⟩; refine ⟨_, rfl, ?_⟩; have n0_ := Aside0.mk (Kd.R_below (by (with_reducible repeat (first | apply Kd.R_alloc | apply Kd.R_drewN | apply Kd.R_drew)); exact HO_63.out) hb); have n1_ := Aside0.mk (Kd.R_below (by (with_reducible repeat (first | apply Kd.R_alloc | apply Kd.R_drewN | apply Kd.R_drew)); exact HO_507.out) hb); have n2_ := Aside0.mk (below_step (by repeat first | exact HB.out | apply below_alloc | apply pw_below_drewN | apply below_drew1) hb); clear HO_63; clear HO_507; clear HB; have HO_63 := n0_; have HO_507 := n1_; have HB := n2_; clear n0_ n1_ n2_; (try clear hb)))
                first | go_roundg k5 | (try subst hji57; try subst hji88; try subst hji93; try subst hji98; go_roundg k5)
                case measure => have := HJ28.out; have := HJ107.out; have := HJ147.out; have := HK4.out; have := HK5.out; omega
                case rel => exact ⟨(wrap64 (x76_5 + 1)), (by first | rfl | (simp; done) | (simp [*]; done)), H', ⟨by have := HJ28.out; have := HJ107.out; have := HJ147.out; have := HK4.out; have := HK5.out; omega⟩, ⟨by (with_reducible repeat (first | apply Kd.R_alloc | apply Kd.R_drewN | apply Kd.R_drew)); exact HO_63.out⟩, ⟨by (with_reducible repeat (first | apply Kd.R_alloc | apply Kd.R_drewN | apply Kd.R_drew)); exact HO_507.out⟩, ⟨by repeat (first | exact HB.out | apply below_alloc | apply pw_below_drewN | apply below_drew1)⟩⟩
               ·as_aux_lemma =>
                rw [if_neg c175] at H
                have c175b0 : decide (x76_5 < (rd t666 x509_4)) = false := decide_eq_false c175
                clear c175
                have H' := Aside0.mk H
                clear H
                as_aux_lemma =>
                go_wp2
                first | go_roundg k5 | (try subst hji57; try subst hji88; try subst hji93; try subst hji98; go_roundg k5)
                case measure => have := HJ28.out; have := HJ107.out; have := HJ147.out; have := HK4.out; have := HK5.out; omega
                case rel => exact ⟨(wrap64 (x71_4 + (rd t666 x509_4))), (wrap64 (x509_4 + 1)), (by first | rfl | (simp; done) | (simp [*]; done)), (by first | rfl | (simp; done) | (simp [*]; done)), H', ⟨by have := HJ28.out; have := HJ107.out; have := HJ147.out; have := HK4.out; have := HK5.out; omega⟩, ⟨by (with_reducible repeat (first | apply Kd.R_alloc | apply Kd.R_drewN | apply Kd.R_drew)); exact HO_63.out⟩, ⟨by (with_reducible repeat (first | apply Kd.R_alloc | apply Kd.R_drewN | apply Kd.R_drew)); exact HO_507.out⟩, ⟨by repeat (first | exact HB.out | apply below_alloc | apply pw_below_drewN | apply below_drew1)⟩⟩
            ·as_aux_lemma =>
             rw [if_neg c168] at H
             have c168b0 : decide (x509_4 < (t666.length : Int)) = false := decide_eq_false c168
             clear c168
             obtain rfl := Option.some.inj H
             as_aux_lemma =>
             go_wp2
             go_ret
             exact ⟨by first | rfl | (simp [errW_none, errW_some] <;> rfl) | (simp [*, errW_none, errW_some] <;> rfl), by repeat (first | exact HB.out | apply below_alloc | apply pw_below_drewN | apply below_drew1)⟩
         ·replace c167 := Bool.eq_false_iff.mpr c167
          subst c167
          rw [if_neg (show ¬ (false = true) by decide)] at H
          try dsimp only at H
          obtain rfl := Option.some.inj H
          as_aux_lemma =>
          go_wp2
          go_ret
          exact ⟨by first | rfl | (simp [errW_none, errW_some] <;> rfl) | (simp [*, errW_none, errW_some] <;> rfl), by repeat (first | exact HB.out | apply below_alloc | apply pw_below_drewN | apply below_drew1)⟩
  ·as_aux_lemma =>
   rw [if_neg c16] at H
   exact absurd H (by simp)

/-- THE ONE PURE STATEMENT of laws_FnStepsAround: yours. -/
def laws_FnStepsAround.Pure : Prop := ∀ (l0 : List Int) (l1 : List Int), l0.length ≤ maxLen → l0.length * 1 ≤ 140737488351232 → (∀ x ∈ l0, (Lit.int .u8 x).wf = true) → l1.length ≤ maxLen → l1.length * 1 ≤ 140737488351232 → (∀ x ∈ l1, (Lit.int .u8 x).wf = true) → ∃ k, laws_FnStepsAround.f k l0 l1 = some true
theorem laws_FnStepsAround.walk (P : laws_FnStepsAround.Pure) (a0 : Option Addr) (len0 cap0 : Nat) (z0 : List Int) (a1 : Option Addr) (len1 cap1 : Nat) (z1 : List Int) (w : World) (w0 : (a0 = none ∧ len0 = 0 ∧ cap0 = 0 ∧ z0 = []) ∨ ∃ x, a0 = some x ∧ len0 ≤ cap0 ∧ cap0 ≤ maxLen ∧ z0.length = cap0 ∧ (∀ i, i < z0.length → w.cell? (x.add i) = some (.int .u8 (z0.getD i 0))) ∧ ∀ n ∈ z0, (Lit.int .u8 n).wf = true) (y0 : len0 * 1 ≤ 140737488351232) (w1 : (a1 = none ∧ len1 = 0 ∧ cap1 = 0 ∧ z1 = []) ∨ ∃ x, a1 = some x ∧ len1 ≤ cap1 ∧ cap1 ≤ maxLen ∧ z1.length = cap1 ∧ (∀ i, i < z1.length → w.cell? (x.add i) = some (.int .u8 (z1.getD i 0))) ∧ ∀ n ∈ z1, (Lit.int .u8 n).wf = true) (y1 : len1 * 1 ≤ 140737488351232) :
 Calls Try.prog 5 #[.slice a0 len0 cap0, .slice a1 len1 cap1] w fun e w' => e = .returned (.bool true) ∧ Below w.heap.size w w' := by
 obtain ⟨l0, rfl, hr0, hm0, hw0, hc0⟩ := ReadsInt.ofRowC w0
 obtain ⟨l1, rfl, hr1, hm1, hw1, hc1⟩ := ReadsInt.ofRowC w1
 obtain ⟨k, h⟩ := P l0 l1 hm0 y0 hw0 hm1 y1 hw1
 refine (laws_FnStepsAround.calls k _ _ l0 _ _ l1 true w (Kd.C_of_reads (d := (0 : Int)) (h1 := fun _ => rfl) hr0) hc0 (Kd.C_of_reads (d := (0 : Int)) (h1 := fun _ => rfl) hr1) hc1 h).mono ?_
 rintro e w' ⟨rfl, hd⟩
 exact ⟨rfl, hd⟩

end Go.Proofs.Ytdaodlhcedjfoaa.P
