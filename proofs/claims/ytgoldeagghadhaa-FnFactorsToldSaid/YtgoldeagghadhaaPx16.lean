-- Printed for this claim by a program of this session, out of the translation. Lean checks it.
import Derived.Test.YtgoldeagghadhaaPx0
import Derived.Test.YtgoldeagghadhaaPx2
import Derived.Test.YtgoldeagghadhaaPx3
import Derived.Test.YtgoldeagghadhaaPx4
import Derived.Test.YtgoldeagghadhaaPx7
import Derived.Test.YtgoldeagghadhaaPx8
import Derived.Test.YtgoldeagghadhaaPx9
import Derived.Test.YtgoldeagghadhaaPx11
import Derived.Test.YtgoldeagghadhaaPx12
import Derived.Test.YtgoldeagghadhaaPx13
import Derived.Test.YtgoldeagghadhaaPx14
import Derived.Test.YtgoldeagghadhaaPx15
-- SLIM
namespace Go.Proofs.Ytgoldeagghadhaa.P
open Go.RowKit Go.Proofs.YtgoldeagghadhaaW.PrintWords Go.Proofs.YtgoldeagghadhaaW.PrintLast Go.Proofs.YtgoldeagghadhaaW.PrintMore
attribute [local go_sem] max2_int min2_int max_two min_two max_three min_three max_four min_four   -- for this text's walks alone
set_option linter.unusedVariables false
set_option linter.unusedSimpArgs false

/-! ### laws_FnFactorsTold: function 13 -/
mutual
def laws_FnFactorsTold.j0 : Nat → List Int → Int → List (List Int) → Bool → Int → Int → Bool → Bool → Bool → Option (Bool)
 | 0, _, _, _, _, _, _, _, _, _ => none
 | k + 1, x1, x5, x6, x7, x10, x14, x15, x18, x148 => if x148 = true then (none) else (if x7 = true then ((impl_NumberOfFactors.f k x6).bind fun bt318 => (if bt318.2 = true then (if bt318.1 = x5 then (if (x6.length : Int) = 1 then (if 0 < (x6.length : Int) then (if 1 < ((rd_L1 x6 0).length : Int) then (if (x18 != ((rd (rd_L1 x6 0) 1) == 1)) = true then (none) else (if x10 = 0 then (none) else (if (Int.tmod x5 x10) = 0 then (if x15 = true then (if 0 < ((rd_L1 x6 0).length : Int) then (if x14 = (rd (rd_L1 x6 0) 0) then (if x14 = 0 then (none) else (laws_FnFactorsTold.j1 k x1 x5 x6 x10 ((Int.tmod x5 x14) != 0))) else (none)) else (none)) else (laws_FnFactorsTold.j1 k x1 x5 x6 x10 false)) else (none)))) else (none)) else (none)) else (if (x18 != false) = true then (none) else (if x10 = 0 then (none) else (if (Int.tmod x5 x10) = 0 then (if x15 = true then (if 0 < (x6.length : Int) then (if 0 < ((rd_L1 x6 0).length : Int) then (if x14 = (rd (rd_L1 x6 0) 0) then (if x14 = 0 then (none) else (laws_FnFactorsTold.j1 k x1 x5 x6 x10 ((Int.tmod x5 x14) != 0))) else (none)) else (none)) else (none)) else (laws_FnFactorsTold.j1 k x1 x5 x6 x10 false)) else (none))))) else (none)) else (none))) else (laws_FnFactorsTold.j3 k x1))
def laws_FnFactorsTold.j3 : Nat → List Int → Option (Bool)
 | 0, _ => none
 | k + 1, x1 => (spec_DrawNumberOfFactors.f k x1).bind fun t339 => ((impl_NumberOfFactors.f k t339).bind fun bt342 => ((spec_NumberOfFactors.f k t339).bind fun bt344 => ((spec_DrawIsSmooth.f x1).bind fun bt346 => ((impl_IsSmooth.f k bt346.1 bt346.2).bind fun bt348 => ((spec_IsSmooth.f k bt346.1 bt346.2).bind fun bt350 => (if (bt342.2 != bt344.2) = true then (none) else (if bt342.1 = bt344.1 then (if (bt348.2 != bt350.2) = true then (none) else (if (bt348.1 != bt350.1) = true then (none) else (if bt342.2 = true then ((impl_FactorsOf.f k bt342.1).bind fun bt352 => (if bt352.2 = true then ((laws_gLists.f k bt352.1 t339).bind fun t356 => (some t356)) else (none))) else (some true)))) else (none))))))))
def laws_FnFactorsTold.j1 : Nat → List Int → Int → List (List Int) → Int → Bool → Option (Bool)
 | 0, _, _, _, _, _ => none
 | k + 1, x1, x5, x6, x10, x200 => if x200 = true then (none) else (laws_FnFactorsTold.l0 k x1 x5 x6 x10 1 x6 (x6.length : Int) 0)
def laws_FnFactorsTold.l0 : Nat → List Int → Int → List (List Int) → Int → Int → List (List Int) → Int → Int → Option (Bool)
 | 0, _, _, _, _, _, _, _, _ => none
 | k + 1, x1, x5, x6, x10, x24, x201, x202, x203 => if x203 < x202 then (if 0 ≤ x203 then (if x203 < (x201.length : Int) then (if 0 < ((rd_L1 x201 x203).length : Int) then ((impl_IsPrime.f k (rd (rd_L1 x201 x203) 0)).bind fun bt328 => ((impl_IsSmooth.f k x5 (rd (rd_L1 x201 x203) 0)).bind fun bt331 => (if ((rd_L1 x201 x203).length : Int) = 2 then (if bt328.2 = true then (if bt328.1 = true then (if 1 < ((rd_L1 x201 x203).length : Int) then (if (rd (rd_L1 x201 x203) 1) < 1 then (none) else (if x203 > 0 then (if 0 ≤ (wrap64 (x203 - 1)) then (if (wrap64 (x203 - 1)) < (x6.length : Int) then (if 0 < ((rd_L1 x6 (wrap64 (x203 - 1))).length : Int) then (if (rd (rd_L1 x6 (wrap64 (x203 - 1))) 0) ≥ (rd (rd_L1 x201 x203) 0) then (none) else (if bt331.2 = true then (if (bt331.1 != (x203 == (wrap64 ((x6.length : Int) - 1)))) = true then (none) else (laws_FnFactorsTold.l0 k x1 x5 x6 x10 (wrap64 (x24 * (rd (rd_L1 x201 x203) 0))) x201 x202 (wrap64 (x203 + 1)))) else (none))) else (none)) else (none)) else (none)) else (if bt331.2 = true then (if (bt331.1 != (x203 == (wrap64 ((x6.length : Int) - 1)))) = true then (none) else (laws_FnFactorsTold.l0 k x1 x5 x6 x10 (wrap64 (x24 * (rd (rd_L1 x201 x203) 0))) x201 x202 (wrap64 (x203 + 1)))) else (none)))) else (none)) else (none)) else (none)) else (none)))) else (none)) else (none)) else (none)) else (if x24 = x10 then (laws_FnFactorsTold.j3 k x1) else (none))
end
def laws_FnFactorsTold.f (k : Nat) (l0 : List Int) (l1 : List Int) : Option (Bool) := (laws_big.f l0 l1).bind fun t295 => (if t295 = true then (some true) else ((spec_DrawFactorsOf.f l0).bind fun t296 => ((impl_FactorsOf.f k t296).bind fun bt297 => ((spec_FactorsOf.f k t296).bind fun bt301 => ((impl_RadicalOf.f k t296).bind fun bt305 => ((spec_RadicalOf.f k t296).bind fun bt307 => ((impl_LeastFactor.f k t296).bind fun bt309 => ((spec_LeastFactor.f k t296).bind fun bt311 => ((impl_IsPrime.f k t296).bind fun bt313 => ((spec_IsPrime.f k t296).bind fun bt315 => (if (bt297.2 != bt301.2) = true then (none) else ((laws_gLists.f k bt297.1 bt301.1).bind fun t317 => (if t317 = true then (if (bt305.2 != bt307.2) = true then (none) else (if bt305.1 = bt307.1 then (if (bt309.2 != bt311.2) = true then (none) else (if bt309.1 = bt311.1 then (if (bt313.2 != bt315.2) = true then (none) else (if (bt313.1 != bt315.1) = true then (none) else (if (bt305.2 != bt297.2) = true then (none) else (if bt297.2 = true then (if (bt309.2 != (decide (t296 > 1))) = true then (none) else (laws_FnFactorsTold.j0 k l1 t296 bt297.1 bt297.2 bt305.1 bt309.1 bt309.2 bt313.1 (!bt313.2))) else (if (bt309.2 != false) = true then (none) else (laws_FnFactorsTold.j0 k l1 t296 bt297.1 bt297.2 bt305.1 bt309.1 bt309.2 bt313.1 false)))))) else (none))) else (none))) else (none))))))))))))))
theorem laws_FnFactorsTold.mono_l : ∀ k, (∀ y0 y1 y2 y3 y4 y5 y6 y7 y8, LeO (laws_FnFactorsTold.j0 k y0 y1 y2 y3 y4 y5 y6 y7 y8) (laws_FnFactorsTold.j0 (k + 1) y0 y1 y2 y3 y4 y5 y6 y7 y8)) ∧ (∀ y0, LeO (laws_FnFactorsTold.j3 k y0) (laws_FnFactorsTold.j3 (k + 1) y0)) ∧ (∀ y0 y1 y2 y3 y4, LeO (laws_FnFactorsTold.j1 k y0 y1 y2 y3 y4) (laws_FnFactorsTold.j1 (k + 1) y0 y1 y2 y3 y4)) ∧ (∀ y0 y1 y2 y3 y4 y5 y6 y7, LeO (laws_FnFactorsTold.l0 k y0 y1 y2 y3 y4 y5 y6 y7) (laws_FnFactorsTold.l0 (k + 1) y0 y1 y2 y3 y4 y5 y6 y7))
 | 0 => ⟨fun _ _ _ _ _ _ _ _ _ r h => by simp [laws_FnFactorsTold.j0] at h, fun _ r h => by simp [laws_FnFactorsTold.j3] at h, fun _ _ _ _ _ r h => by simp [laws_FnFactorsTold.j1] at h, fun _ _ _ _ _ _ _ _ r h => by simp [laws_FnFactorsTold.l0] at h⟩
 | k + 1 => by
  obtain ⟨ih0, ih1, ih2, ih3⟩ := laws_FnFactorsTold.mono_l k
  refine ⟨?_, ?_, ?_, ?_⟩
  ·intro y0 y1 y2 y3 y4 y5 y6 y7 y8
   unfold laws_FnFactorsTold.j0
   repeat' first
   | (with_reducible exact ih0 _ _ _ _ _ _ _ _ _)
   | (with_reducible exact ih1 _)
   | (with_reducible exact ih2 _ _ _ _ _)
   | (with_reducible exact ih3 _ _ _ _ _ _ _ _)
   | (with_reducible exact impl_FactorsOf.mono _ _)
   | (with_reducible exact impl_IsPrime.mono _ _)
   | (with_reducible exact impl_IsSmooth.mono _ _ _)
   | (with_reducible exact impl_LeastFactor.mono _ _)
   | (with_reducible exact impl_NumberOfFactors.mono _ _)
   | (with_reducible exact impl_RadicalOf.mono _ _)
   | (with_reducible exact laws_gLists.mono _ _ _)
   | (with_reducible exact spec_DrawNumberOfFactors.mono _ _)
   | (with_reducible exact spec_FactorsOf.mono _ _)
   | (with_reducible exact spec_IsPrime.mono _ _)
   | (with_reducible exact spec_IsSmooth.mono _ _ _)
   | (with_reducible exact spec_LeastFactor.mono _ _)
   | (with_reducible exact spec_NumberOfFactors.mono _ _)
   | (with_reducible exact spec_RadicalOf.mono _ _)
   | (with_reducible exact LeO.refl _)
   | (with_reducible exact LeO.none _)
   | (with_reducible refine LeO.ite ?_ ?_)
   | (with_reducible refine LeO.bind ?_ (fun _ => ?_))
   | exact ih0 _ _ _ _ _ _ _ _ _
   | exact ih1 _
   | exact ih2 _ _ _ _ _
   | exact ih3 _ _ _ _ _ _ _ _
   | exact impl_FactorsOf.mono _ _
   | exact impl_IsPrime.mono _ _
   | exact impl_IsSmooth.mono _ _ _
   | exact impl_LeastFactor.mono _ _
   | exact impl_NumberOfFactors.mono _ _
   | exact impl_RadicalOf.mono _ _
   | exact laws_gLists.mono _ _ _
   | exact spec_DrawNumberOfFactors.mono _ _
   | exact spec_FactorsOf.mono _ _
   | exact spec_IsPrime.mono _ _
   | exact spec_IsSmooth.mono _ _ _
   | exact spec_LeastFactor.mono _ _
   | exact spec_NumberOfFactors.mono _ _
   | exact spec_RadicalOf.mono _ _
   | exact LeO.none _
   | refine LeO.ite ?_ ?_
   | refine LeO.bind ?_ (fun _ => ?_)
  ·intro y0
   unfold laws_FnFactorsTold.j3
   repeat' first
   | (with_reducible exact ih0 _ _ _ _ _ _ _ _ _)
   | (with_reducible exact ih1 _)
   | (with_reducible exact ih2 _ _ _ _ _)
   | (with_reducible exact ih3 _ _ _ _ _ _ _ _)
   | (with_reducible exact impl_FactorsOf.mono _ _)
   | (with_reducible exact impl_IsPrime.mono _ _)
   | (with_reducible exact impl_IsSmooth.mono _ _ _)
   | (with_reducible exact impl_LeastFactor.mono _ _)
   | (with_reducible exact impl_NumberOfFactors.mono _ _)
   | (with_reducible exact impl_RadicalOf.mono _ _)
   | (with_reducible exact laws_gLists.mono _ _ _)
   | (with_reducible exact spec_DrawNumberOfFactors.mono _ _)
   | (with_reducible exact spec_FactorsOf.mono _ _)
   | (with_reducible exact spec_IsPrime.mono _ _)
   | (with_reducible exact spec_IsSmooth.mono _ _ _)
   | (with_reducible exact spec_LeastFactor.mono _ _)
   | (with_reducible exact spec_NumberOfFactors.mono _ _)
   | (with_reducible exact spec_RadicalOf.mono _ _)
   | (with_reducible exact LeO.refl _)
   | (with_reducible exact LeO.none _)
   | (with_reducible refine LeO.ite ?_ ?_)
   | (with_reducible refine LeO.bind ?_ (fun _ => ?_))
   | exact ih0 _ _ _ _ _ _ _ _ _
   | exact ih1 _
   | exact ih2 _ _ _ _ _
   | exact ih3 _ _ _ _ _ _ _ _
   | exact impl_FactorsOf.mono _ _
   | exact impl_IsPrime.mono _ _
   | exact impl_IsSmooth.mono _ _ _
   | exact impl_LeastFactor.mono _ _
   | exact impl_NumberOfFactors.mono _ _
   | exact impl_RadicalOf.mono _ _
   | exact laws_gLists.mono _ _ _
   | exact spec_DrawNumberOfFactors.mono _ _
   | exact spec_FactorsOf.mono _ _
   | exact spec_IsPrime.mono _ _
   | exact spec_IsSmooth.mono _ _ _
   | exact spec_LeastFactor.mono _ _
   | exact spec_NumberOfFactors.mono _ _
   | exact spec_RadicalOf.mono _ _
   | exact LeO.none _
   | refine LeO.ite ?_ ?_
   | refine LeO.bind ?_ (fun _ => ?_)
  ·intro y0 y1 y2 y3 y4
   unfold laws_FnFactorsTold.j1
   repeat' first
   | (with_reducible exact ih0 _ _ _ _ _ _ _ _ _)
   | (with_reducible exact ih1 _)
   | (with_reducible exact ih2 _ _ _ _ _)
   | (with_reducible exact ih3 _ _ _ _ _ _ _ _)
   | (with_reducible exact impl_FactorsOf.mono _ _)
   | (with_reducible exact impl_IsPrime.mono _ _)
   | (with_reducible exact impl_IsSmooth.mono _ _ _)
   | (with_reducible exact impl_LeastFactor.mono _ _)
   | (with_reducible exact impl_NumberOfFactors.mono _ _)
   | (with_reducible exact impl_RadicalOf.mono _ _)
   | (with_reducible exact laws_gLists.mono _ _ _)
   | (with_reducible exact spec_DrawNumberOfFactors.mono _ _)
   | (with_reducible exact spec_FactorsOf.mono _ _)
   | (with_reducible exact spec_IsPrime.mono _ _)
   | (with_reducible exact spec_IsSmooth.mono _ _ _)
   | (with_reducible exact spec_LeastFactor.mono _ _)
   | (with_reducible exact spec_NumberOfFactors.mono _ _)
   | (with_reducible exact spec_RadicalOf.mono _ _)
   | (with_reducible exact LeO.refl _)
   | (with_reducible exact LeO.none _)
   | (with_reducible refine LeO.ite ?_ ?_)
   | (with_reducible refine LeO.bind ?_ (fun _ => ?_))
   | exact ih0 _ _ _ _ _ _ _ _ _
   | exact ih1 _
   | exact ih2 _ _ _ _ _
   | exact ih3 _ _ _ _ _ _ _ _
   | exact impl_FactorsOf.mono _ _
   | exact impl_IsPrime.mono _ _
   | exact impl_IsSmooth.mono _ _ _
   | exact impl_LeastFactor.mono _ _
   | exact impl_NumberOfFactors.mono _ _
   | exact impl_RadicalOf.mono _ _
   | exact laws_gLists.mono _ _ _
   | exact spec_DrawNumberOfFactors.mono _ _
   | exact spec_FactorsOf.mono _ _
   | exact spec_IsPrime.mono _ _
   | exact spec_IsSmooth.mono _ _ _
   | exact spec_LeastFactor.mono _ _
   | exact spec_NumberOfFactors.mono _ _
   | exact spec_RadicalOf.mono _ _
   | exact LeO.none _
   | refine LeO.ite ?_ ?_
   | refine LeO.bind ?_ (fun _ => ?_)
  ·intro y0 y1 y2 y3 y4 y5 y6 y7
   unfold laws_FnFactorsTold.l0
   repeat' first
   | (with_reducible exact ih0 _ _ _ _ _ _ _ _ _)
   | (with_reducible exact ih1 _)
   | (with_reducible exact ih2 _ _ _ _ _)
   | (with_reducible exact ih3 _ _ _ _ _ _ _ _)
   | (with_reducible exact impl_FactorsOf.mono _ _)
   | (with_reducible exact impl_IsPrime.mono _ _)
   | (with_reducible exact impl_IsSmooth.mono _ _ _)
   | (with_reducible exact impl_LeastFactor.mono _ _)
   | (with_reducible exact impl_NumberOfFactors.mono _ _)
   | (with_reducible exact impl_RadicalOf.mono _ _)
   | (with_reducible exact laws_gLists.mono _ _ _)
   | (with_reducible exact spec_DrawNumberOfFactors.mono _ _)
   | (with_reducible exact spec_FactorsOf.mono _ _)
   | (with_reducible exact spec_IsPrime.mono _ _)
   | (with_reducible exact spec_IsSmooth.mono _ _ _)
   | (with_reducible exact spec_LeastFactor.mono _ _)
   | (with_reducible exact spec_NumberOfFactors.mono _ _)
   | (with_reducible exact spec_RadicalOf.mono _ _)
   | (with_reducible exact LeO.refl _)
   | (with_reducible exact LeO.none _)
   | (with_reducible refine LeO.ite ?_ ?_)
   | (with_reducible refine LeO.bind ?_ (fun _ => ?_))
   | exact ih0 _ _ _ _ _ _ _ _ _
   | exact ih1 _
   | exact ih2 _ _ _ _ _
   | exact ih3 _ _ _ _ _ _ _ _
   | exact impl_FactorsOf.mono _ _
   | exact impl_IsPrime.mono _ _
   | exact impl_IsSmooth.mono _ _ _
   | exact impl_LeastFactor.mono _ _
   | exact impl_NumberOfFactors.mono _ _
   | exact impl_RadicalOf.mono _ _
   | exact laws_gLists.mono _ _ _
   | exact spec_DrawNumberOfFactors.mono _ _
   | exact spec_FactorsOf.mono _ _
   | exact spec_IsPrime.mono _ _
   | exact spec_IsSmooth.mono _ _ _
   | exact spec_LeastFactor.mono _ _
   | exact spec_NumberOfFactors.mono _ _
   | exact spec_RadicalOf.mono _ _
   | exact LeO.none _
   | refine LeO.ite ?_ ?_
   | refine LeO.bind ?_ (fun _ => ?_)
theorem laws_FnFactorsTold.mono : ∀ a0 a1 k, LeO (laws_FnFactorsTold.f k a0 a1) (laws_FnFactorsTold.f (k + 1) a0 a1) := by
 intro a0 a1 k
 obtain ⟨ih0, ih1, ih2, ih3⟩ := laws_FnFactorsTold.mono_l k
 unfold laws_FnFactorsTold.f
 repeat' first
   | (with_reducible exact ih0 _ _ _ _ _ _ _ _ _)
   | (with_reducible exact ih1 _)
   | (with_reducible exact ih2 _ _ _ _ _)
   | (with_reducible exact ih3 _ _ _ _ _ _ _ _)
   | (with_reducible exact impl_FactorsOf.mono _ _)
   | (with_reducible exact impl_IsPrime.mono _ _)
   | (with_reducible exact impl_IsSmooth.mono _ _ _)
   | (with_reducible exact impl_LeastFactor.mono _ _)
   | (with_reducible exact impl_NumberOfFactors.mono _ _)
   | (with_reducible exact impl_RadicalOf.mono _ _)
   | (with_reducible exact laws_gLists.mono _ _ _)
   | (with_reducible exact spec_DrawNumberOfFactors.mono _ _)
   | (with_reducible exact spec_FactorsOf.mono _ _)
   | (with_reducible exact spec_IsPrime.mono _ _)
   | (with_reducible exact spec_IsSmooth.mono _ _ _)
   | (with_reducible exact spec_LeastFactor.mono _ _)
   | (with_reducible exact spec_NumberOfFactors.mono _ _)
   | (with_reducible exact spec_RadicalOf.mono _ _)
   | (with_reducible exact LeO.refl _)
   | (with_reducible exact LeO.none _)
   | (with_reducible refine LeO.ite ?_ ?_)
   | (with_reducible refine LeO.bind ?_ (fun _ => ?_))
   | exact ih0 _ _ _ _ _ _ _ _ _
   | exact ih1 _
   | exact ih2 _ _ _ _ _
   | exact ih3 _ _ _ _ _ _ _ _
   | exact impl_FactorsOf.mono _ _
   | exact impl_IsPrime.mono _ _
   | exact impl_IsSmooth.mono _ _ _
   | exact impl_LeastFactor.mono _ _
   | exact impl_NumberOfFactors.mono _ _
   | exact impl_RadicalOf.mono _ _
   | exact laws_gLists.mono _ _ _
   | exact spec_DrawNumberOfFactors.mono _ _
   | exact spec_FactorsOf.mono _ _
   | exact spec_IsPrime.mono _ _
   | exact spec_IsSmooth.mono _ _ _
   | exact spec_LeastFactor.mono _ _
   | exact spec_NumberOfFactors.mono _ _
   | exact spec_RadicalOf.mono _ _
   | exact LeO.none _
   | refine LeO.ite ?_ ?_
   | refine LeO.bind ?_ (fun _ => ?_)
set_option maxHeartbeats 100000000 in
set_option maxRecDepth 100000 in
theorem laws_FnFactorsTold.calls (k : Nat) (A0 : Option Addr) (c0 : Nat) (l0 : List Int) (A1 : Option Addr) (c1 : Nat) (l1 : List Int) (r : Bool) (w : World) (hr0 : Kd.C (Kd.int .u8) w A0 l0.length l0) (hc0 : l0.length ≤ c0) (hr1 : Kd.C (Kd.int .u8) w A1 l1.length l1) (hc1 : l1.length ≤ c1) (h : laws_FnFactorsTold.f k l0 l1 = some r) :
  Calls Try.prog 13 #[.slice A0 l0.length c0, .slice A1 l1.length c1] w fun e w' => e = .returned (.bool r) ∧ Below w.heap.size w w' := by
 have HR0 := Aside0.mk hr0
 have HC0 := Aside0.mk hc0
 clear hr0 hc0
 have HR1 := Aside0.mk hr1
 have HC1 := Aside0.mk hc1
 clear hr1 hc1
 have HB := Aside0.mk (Below.refl w.heap.size w)
 have H : ((laws_big.f l0 l1).bind fun t295 => (if t295 = true then (some true) else ((spec_DrawFactorsOf.f l0).bind fun t296 => ((impl_FactorsOf.f k t296).bind fun bt297 => ((spec_FactorsOf.f k t296).bind fun bt301 => ((impl_RadicalOf.f k t296).bind fun bt305 => ((spec_RadicalOf.f k t296).bind fun bt307 => ((impl_LeastFactor.f k t296).bind fun bt309 => ((spec_LeastFactor.f k t296).bind fun bt311 => ((impl_IsPrime.f k t296).bind fun bt313 => ((spec_IsPrime.f k t296).bind fun bt315 => (if (bt297.2 != bt301.2) = true then (none) else ((laws_gLists.f k bt297.1 bt301.1).bind fun t317 => (if t317 = true then (if (bt305.2 != bt307.2) = true then (none) else (if bt305.1 = bt307.1 then (if (bt309.2 != bt311.2) = true then (none) else (if bt309.1 = bt311.1 then (if (bt313.2 != bt315.2) = true then (none) else (if (bt313.1 != bt315.1) = true then (none) else (if (bt305.2 != bt297.2) = true then (none) else (if bt297.2 = true then (if (bt309.2 != (decide (t296 > 1))) = true then (none) else (laws_FnFactorsTold.j0 k l1 t296 bt297.1 bt297.2 bt305.1 bt309.1 bt309.2 bt313.1 (!bt313.2))) else (if (bt309.2 != false) = true then (none) else (laws_FnFactorsTold.j0 k l1 t296 bt297.1 bt297.2 bt305.1 bt309.1 bt309.2 bt313.1 false)))))) else (none))) else (none))) else (none))))))))))))))) = some r := h
 clear h
 replace H := Option.bind_eq_some_iff.mp H
 obtain ⟨t295, A30, H⟩ := H
 replace H : (if t295 = true then (some true) else ((spec_DrawFactorsOf.f l0).bind fun t296 => ((impl_FactorsOf.f k t296).bind fun bt297 => ((spec_FactorsOf.f k t296).bind fun bt301 => ((impl_RadicalOf.f k t296).bind fun bt305 => ((spec_RadicalOf.f k t296).bind fun bt307 => ((impl_LeastFactor.f k t296).bind fun bt309 => ((spec_LeastFactor.f k t296).bind fun bt311 => ((impl_IsPrime.f k t296).bind fun bt313 => ((spec_IsPrime.f k t296).bind fun bt315 => (if (bt297.2 != bt301.2) = true then (none) else ((laws_gLists.f k bt297.1 bt301.1).bind fun t317 => (if t317 = true then (if (bt305.2 != bt307.2) = true then (none) else (if bt305.1 = bt307.1 then (if (bt309.2 != bt311.2) = true then (none) else (if bt309.1 = bt311.1 then (if (bt313.2 != bt315.2) = true then (none) else (if (bt313.1 != bt315.1) = true then (none) else (if (bt305.2 != bt297.2) = true then (none) else (if bt297.2 = true then (if (bt309.2 != (decide (t296 > 1))) = true then (none) else (laws_FnFactorsTold.j0 k l1 t296 bt297.1 bt297.2 bt305.1 bt309.1 bt309.2 bt313.1 (!bt313.2))) else (if (bt309.2 != false) = true then (none) else (laws_FnFactorsTold.j0 k l1 t296 bt297.1 bt297.2 bt305.1 bt309.1 bt309.2 bt313.1 false)))))) else (none))) else (none))) else (none)))))))))))))) = some r := H
 have A3 := Aside0.mk A30
 clear A30
 by_cases c4 : t295 = true
 ·subst c4
  have H1 : (some true) = some r := by rw [if_pos rfl] at H; exact H
  clear H
  have H := H1
  clear H1
  obtain rfl := Option.some.inj H
  go_enter Try.func13, Try.ntmps13
  go_wp2_with (first | (go_at_call 53; (with_reducible refine (laws_big.calls _ _ l0 _ _ l1 true _ ?side1 ?side2 ?side3 ?side4 A3.out).mono ?_); (case side1 => repeat (first | exact HR0.out | (with_reducible refine Kd.C_alloc ?_ _) | (with_reducible refine Kd.C_drewN ?_ _) | (with_reducible refine Kd.C_drew ?_))); (case side2 => exact HC0.out); (case side3 => repeat (first | exact HR1.out | (with_reducible refine Kd.C_alloc ?_ _) | (with_reducible refine Kd.C_drewN ?_ _) | (with_reducible refine Kd.C_drew ?_))); (case side4 => exact HC1.out); rintro e w' ⟨rfl, ⟨nd, rfl⟩⟩; (try first | exact ⟨rfl, _, World.drewN_drewN _ _ _⟩ | exact ⟨rfl, _, Eq.trans (World.drewN_drewN _ _ _) (congrArg (World.drewN _) (Nat.add_assoc _ _ _))⟩)))
  repeat (go_quiet (first | (go_at_call 53; (with_reducible refine (laws_big.calls _ _ l0 _ _ l1 true _ ?side1 ?side2 ?side3 ?side4 A3.out).mono ?_); (case side1 => repeat (first | exact HR0.out | (with_reducible refine Kd.C_alloc ?_ _) | (with_reducible refine Kd.C_drewN ?_ _) | (with_reducible refine Kd.C_drew ?_))); (case side2 => exact HC0.out); (case side3 => repeat (first | exact HR1.out | (with_reducible refine Kd.C_alloc ?_ _) | (with_reducible refine Kd.C_drewN ?_ _) | (with_reducible refine Kd.C_drew ?_))); (case side4 => exact HC1.out); rintro e w' ⟨rfl, ⟨nd, rfl⟩⟩; (try first | exact ⟨rfl, _, World.drewN_drewN _ _ _⟩ | exact ⟨rfl, _, Eq.trans (World.drewN_drewN _ _ _) (congrArg (World.drewN _) (Nat.add_assoc _ _ _))⟩))); try go_wp2_with (first | (go_at_call 53; (with_reducible refine (laws_big.calls _ _ l0 _ _ l1 true _ ?side1 ?side2 ?side3 ?side4 A3.out).mono ?_); (case side1 => repeat (first | exact HR0.out | (with_reducible refine Kd.C_alloc ?_ _) | (with_reducible refine Kd.C_drewN ?_ _) | (with_reducible refine Kd.C_drew ?_))); (case side2 => exact HC0.out); (case side3 => repeat (first | exact HR1.out | (with_reducible refine Kd.C_alloc ?_ _) | (with_reducible refine Kd.C_drewN ?_ _) | (with_reducible refine Kd.C_drew ?_))); (case side4 => exact HC1.out); rintro e w' ⟨rfl, ⟨nd, rfl⟩⟩; (try first | exact ⟨rfl, _, World.drewN_drewN _ _ _⟩ | exact ⟨rfl, _, Eq.trans (World.drewN_drewN _ _ _) (congrArg (World.drewN _) (Nat.add_assoc _ _ _))⟩))))
  go_ret
  exact ⟨by first | rfl | (simp [errW_none, errW_some] <;> rfl) | (simp [*, errW_none, errW_some] <;> rfl), by repeat (first | (with_reducible first | exact HB.out | apply below_alloc | apply pw_below_drewN | apply below_drew1) | exact HB.out)⟩
 ·replace c4 := Bool.eq_false_iff.mpr c4
  subst c4
  have H1 : ((spec_DrawFactorsOf.f l0).bind fun t296 => ((impl_FactorsOf.f k t296).bind fun bt297 => ((spec_FactorsOf.f k t296).bind fun bt301 => ((impl_RadicalOf.f k t296).bind fun bt305 => ((spec_RadicalOf.f k t296).bind fun bt307 => ((impl_LeastFactor.f k t296).bind fun bt309 => ((spec_LeastFactor.f k t296).bind fun bt311 => ((impl_IsPrime.f k t296).bind fun bt313 => ((spec_IsPrime.f k t296).bind fun bt315 => (if (bt297.2 != bt301.2) = true then (none) else ((laws_gLists.f k bt297.1 bt301.1).bind fun t317 => (if t317 = true then (if (bt305.2 != bt307.2) = true then (none) else (if bt305.1 = bt307.1 then (if (bt309.2 != bt311.2) = true then (none) else (if bt309.1 = bt311.1 then (if (bt313.2 != bt315.2) = true then (none) else (if (bt313.1 != bt315.1) = true then (none) else (if (bt305.2 != bt297.2) = true then (none) else (if bt297.2 = true then (if (bt309.2 != (decide (t296 > 1))) = true then (none) else (laws_FnFactorsTold.j0 k l1 t296 bt297.1 bt297.2 bt305.1 bt309.1 bt309.2 bt313.1 (!bt313.2))) else (if (bt309.2 != false) = true then (none) else (laws_FnFactorsTold.j0 k l1 t296 bt297.1 bt297.2 bt305.1 bt309.1 bt309.2 bt313.1 false)))))) else (none))) else (none))) else (none))))))))))))) = some r := by rw [if_neg (show ¬ (false = true) by decide)] at H; exact H
  clear H
  have H := H1
  clear H1
  replace H := Option.bind_eq_some_iff.mp H
  obtain ⟨t296, A50, H⟩ := H
  replace H : ((impl_FactorsOf.f k t296).bind fun bt297 => ((spec_FactorsOf.f k t296).bind fun bt301 => ((impl_RadicalOf.f k t296).bind fun bt305 => ((spec_RadicalOf.f k t296).bind fun bt307 => ((impl_LeastFactor.f k t296).bind fun bt309 => ((spec_LeastFactor.f k t296).bind fun bt311 => ((impl_IsPrime.f k t296).bind fun bt313 => ((spec_IsPrime.f k t296).bind fun bt315 => (if (bt297.2 != bt301.2) = true then (none) else ((laws_gLists.f k bt297.1 bt301.1).bind fun t317 => (if t317 = true then (if (bt305.2 != bt307.2) = true then (none) else (if bt305.1 = bt307.1 then (if (bt309.2 != bt311.2) = true then (none) else (if bt309.1 = bt311.1 then (if (bt313.2 != bt315.2) = true then (none) else (if (bt313.1 != bt315.1) = true then (none) else (if (bt305.2 != bt297.2) = true then (none) else (if bt297.2 = true then (if (bt309.2 != (decide (t296 > 1))) = true then (none) else (laws_FnFactorsTold.j0 k l1 t296 bt297.1 bt297.2 bt305.1 bt309.1 bt309.2 bt313.1 (!bt313.2))) else (if (bt309.2 != false) = true then (none) else (laws_FnFactorsTold.j0 k l1 t296 bt297.1 bt297.2 bt305.1 bt309.1 bt309.2 bt313.1 false)))))) else (none))) else (none))) else (none)))))))))))) = some r := H
  have A5 := Aside0.mk A50
  clear A50
  replace H := Option.bind_eq_some_iff.mp H
  obtain ⟨⟨t297, t298⟩, A60, H⟩ := H
  replace H : ((spec_FactorsOf.f k t296).bind fun bt301 => ((impl_RadicalOf.f k t296).bind fun bt305 => ((spec_RadicalOf.f k t296).bind fun bt307 => ((impl_LeastFactor.f k t296).bind fun bt309 => ((spec_LeastFactor.f k t296).bind fun bt311 => ((impl_IsPrime.f k t296).bind fun bt313 => ((spec_IsPrime.f k t296).bind fun bt315 => (if (t298 != bt301.2) = true then (none) else ((laws_gLists.f k t297 bt301.1).bind fun t317 => (if t317 = true then (if (bt305.2 != bt307.2) = true then (none) else (if bt305.1 = bt307.1 then (if (bt309.2 != bt311.2) = true then (none) else (if bt309.1 = bt311.1 then (if (bt313.2 != bt315.2) = true then (none) else (if (bt313.1 != bt315.1) = true then (none) else (if (bt305.2 != t298) = true then (none) else (if t298 = true then (if (bt309.2 != (decide (t296 > 1))) = true then (none) else (laws_FnFactorsTold.j0 k l1 t296 t297 t298 bt305.1 bt309.1 bt309.2 bt313.1 (!bt313.2))) else (if (bt309.2 != false) = true then (none) else (laws_FnFactorsTold.j0 k l1 t296 t297 t298 bt305.1 bt309.1 bt309.2 bt313.1 false)))))) else (none))) else (none))) else (none))))))))))) = some r := H
  have A6 := Aside0.mk A60
  clear A60
  replace H := Option.bind_eq_some_iff.mp H
  obtain ⟨⟨t301, t302⟩, A70, H⟩ := H
  replace H : ((impl_RadicalOf.f k t296).bind fun bt305 => ((spec_RadicalOf.f k t296).bind fun bt307 => ((impl_LeastFactor.f k t296).bind fun bt309 => ((spec_LeastFactor.f k t296).bind fun bt311 => ((impl_IsPrime.f k t296).bind fun bt313 => ((spec_IsPrime.f k t296).bind fun bt315 => (if (t298 != t302) = true then (none) else ((laws_gLists.f k t297 t301).bind fun t317 => (if t317 = true then (if (bt305.2 != bt307.2) = true then (none) else (if bt305.1 = bt307.1 then (if (bt309.2 != bt311.2) = true then (none) else (if bt309.1 = bt311.1 then (if (bt313.2 != bt315.2) = true then (none) else (if (bt313.1 != bt315.1) = true then (none) else (if (bt305.2 != t298) = true then (none) else (if t298 = true then (if (bt309.2 != (decide (t296 > 1))) = true then (none) else (laws_FnFactorsTold.j0 k l1 t296 t297 t298 bt305.1 bt309.1 bt309.2 bt313.1 (!bt313.2))) else (if (bt309.2 != false) = true then (none) else (laws_FnFactorsTold.j0 k l1 t296 t297 t298 bt305.1 bt309.1 bt309.2 bt313.1 false)))))) else (none))) else (none))) else (none)))))))))) = some r := H
  have A7 := Aside0.mk A70
  clear A70
  replace H := Option.bind_eq_some_iff.mp H
  obtain ⟨⟨t305, t306⟩, A80, H⟩ := H
  replace H : ((spec_RadicalOf.f k t296).bind fun bt307 => ((impl_LeastFactor.f k t296).bind fun bt309 => ((spec_LeastFactor.f k t296).bind fun bt311 => ((impl_IsPrime.f k t296).bind fun bt313 => ((spec_IsPrime.f k t296).bind fun bt315 => (if (t298 != t302) = true then (none) else ((laws_gLists.f k t297 t301).bind fun t317 => (if t317 = true then (if (t306 != bt307.2) = true then (none) else (if t305 = bt307.1 then (if (bt309.2 != bt311.2) = true then (none) else (if bt309.1 = bt311.1 then (if (bt313.2 != bt315.2) = true then (none) else (if (bt313.1 != bt315.1) = true then (none) else (if (t306 != t298) = true then (none) else (if t298 = true then (if (bt309.2 != (decide (t296 > 1))) = true then (none) else (laws_FnFactorsTold.j0 k l1 t296 t297 t298 t305 bt309.1 bt309.2 bt313.1 (!bt313.2))) else (if (bt309.2 != false) = true then (none) else (laws_FnFactorsTold.j0 k l1 t296 t297 t298 t305 bt309.1 bt309.2 bt313.1 false)))))) else (none))) else (none))) else (none))))))))) = some r := H
  have A8 := Aside0.mk A80
  clear A80
  replace H := Option.bind_eq_some_iff.mp H
  obtain ⟨⟨t307, t308⟩, A90, H⟩ := H
  replace H : ((impl_LeastFactor.f k t296).bind fun bt309 => ((spec_LeastFactor.f k t296).bind fun bt311 => ((impl_IsPrime.f k t296).bind fun bt313 => ((spec_IsPrime.f k t296).bind fun bt315 => (if (t298 != t302) = true then (none) else ((laws_gLists.f k t297 t301).bind fun t317 => (if t317 = true then (if (t306 != t308) = true then (none) else (if t305 = t307 then (if (bt309.2 != bt311.2) = true then (none) else (if bt309.1 = bt311.1 then (if (bt313.2 != bt315.2) = true then (none) else (if (bt313.1 != bt315.1) = true then (none) else (if (t306 != t298) = true then (none) else (if t298 = true then (if (bt309.2 != (decide (t296 > 1))) = true then (none) else (laws_FnFactorsTold.j0 k l1 t296 t297 t298 t305 bt309.1 bt309.2 bt313.1 (!bt313.2))) else (if (bt309.2 != false) = true then (none) else (laws_FnFactorsTold.j0 k l1 t296 t297 t298 t305 bt309.1 bt309.2 bt313.1 false)))))) else (none))) else (none))) else (none)))))))) = some r := H
  have A9 := Aside0.mk A90
  clear A90
  replace H := Option.bind_eq_some_iff.mp H
  obtain ⟨⟨t309, t310⟩, A100, H⟩ := H
  replace H : ((spec_LeastFactor.f k t296).bind fun bt311 => ((impl_IsPrime.f k t296).bind fun bt313 => ((spec_IsPrime.f k t296).bind fun bt315 => (if (t298 != t302) = true then (none) else ((laws_gLists.f k t297 t301).bind fun t317 => (if t317 = true then (if (t306 != t308) = true then (none) else (if t305 = t307 then (if (t310 != bt311.2) = true then (none) else (if t309 = bt311.1 then (if (bt313.2 != bt315.2) = true then (none) else (if (bt313.1 != bt315.1) = true then (none) else (if (t306 != t298) = true then (none) else (if t298 = true then (if (t310 != (decide (t296 > 1))) = true then (none) else (laws_FnFactorsTold.j0 k l1 t296 t297 t298 t305 t309 t310 bt313.1 (!bt313.2))) else (if (t310 != false) = true then (none) else (laws_FnFactorsTold.j0 k l1 t296 t297 t298 t305 t309 t310 bt313.1 false)))))) else (none))) else (none))) else (none))))))) = some r := H
  have A10 := Aside0.mk A100
  clear A100
  replace H := Option.bind_eq_some_iff.mp H
  obtain ⟨⟨t311, t312⟩, A110, H⟩ := H
  replace H : ((impl_IsPrime.f k t296).bind fun bt313 => ((spec_IsPrime.f k t296).bind fun bt315 => (if (t298 != t302) = true then (none) else ((laws_gLists.f k t297 t301).bind fun t317 => (if t317 = true then (if (t306 != t308) = true then (none) else (if t305 = t307 then (if (t310 != t312) = true then (none) else (if t309 = t311 then (if (bt313.2 != bt315.2) = true then (none) else (if (bt313.1 != bt315.1) = true then (none) else (if (t306 != t298) = true then (none) else (if t298 = true then (if (t310 != (decide (t296 > 1))) = true then (none) else (laws_FnFactorsTold.j0 k l1 t296 t297 t298 t305 t309 t310 bt313.1 (!bt313.2))) else (if (t310 != false) = true then (none) else (laws_FnFactorsTold.j0 k l1 t296 t297 t298 t305 t309 t310 bt313.1 false)))))) else (none))) else (none))) else (none)))))) = some r := H
  have A11 := Aside0.mk A110
  clear A110
  replace H := Option.bind_eq_some_iff.mp H
  obtain ⟨⟨t313, t314⟩, A120, H⟩ := H
  replace H : ((spec_IsPrime.f k t296).bind fun bt315 => (if (t298 != t302) = true then (none) else ((laws_gLists.f k t297 t301).bind fun t317 => (if t317 = true then (if (t306 != t308) = true then (none) else (if t305 = t307 then (if (t310 != t312) = true then (none) else (if t309 = t311 then (if (t314 != bt315.2) = true then (none) else (if (t313 != bt315.1) = true then (none) else (if (t306 != t298) = true then (none) else (if t298 = true then (if (t310 != (decide (t296 > 1))) = true then (none) else (laws_FnFactorsTold.j0 k l1 t296 t297 t298 t305 t309 t310 t313 (!t314))) else (if (t310 != false) = true then (none) else (laws_FnFactorsTold.j0 k l1 t296 t297 t298 t305 t309 t310 t313 false)))))) else (none))) else (none))) else (none))))) = some r := H
  have A12 := Aside0.mk A120
  clear A120
  replace H := Option.bind_eq_some_iff.mp H
  obtain ⟨⟨t315, t316⟩, A130, H⟩ := H
  replace H : (if (t298 != t302) = true then (none) else ((laws_gLists.f k t297 t301).bind fun t317 => (if t317 = true then (if (t306 != t308) = true then (none) else (if t305 = t307 then (if (t310 != t312) = true then (none) else (if t309 = t311 then (if (t314 != t316) = true then (none) else (if (t313 != t315) = true then (none) else (if (t306 != t298) = true then (none) else (if t298 = true then (if (t310 != (decide (t296 > 1))) = true then (none) else (laws_FnFactorsTold.j0 k l1 t296 t297 t298 t305 t309 t310 t313 (!t314))) else (if (t310 != false) = true then (none) else (laws_FnFactorsTold.j0 k l1 t296 t297 t298 t305 t309 t310 t313 false)))))) else (none))) else (none))) else (none)))) = some r := H
  have A13 := Aside0.mk A130
  clear A130
  have HC14 := Aside0.mk H
  clear H
  go_enter Try.func13, Try.ntmps13
  as_aux_lemma =>
  go_upto_region 12 with (first | (go_at_call 53; (with_reducible refine (laws_big.calls _ _ l0 _ _ l1 false _ ?side1 ?side2 ?side3 ?side4 A3.out).mono ?_); (case side1 => repeat (first | exact HR0.out | (with_reducible refine Kd.C_alloc ?_ _) | (with_reducible refine Kd.C_drewN ?_ _) | (with_reducible refine Kd.C_drew ?_))); (case side2 => exact HC0.out); (case side3 => repeat (first | exact HR1.out | (with_reducible refine Kd.C_alloc ?_ _) | (with_reducible refine Kd.C_drewN ?_ _) | (with_reducible refine Kd.C_drew ?_))); (case side4 => exact HC1.out); rintro e w' ⟨rfl, ⟨nd, rfl⟩⟩; (try first | exact ⟨rfl, _, World.drewN_drewN _ _ _⟩ | exact ⟨rfl, _, Eq.trans (World.drewN_drewN _ _ _) (congrArg (World.drewN _) (Nat.add_assoc _ _ _))⟩)))
  as_aux_lemma =>
  go_upto_region 12 with (first | (go_at_call 54; (with_reducible refine (spec_DrawFactorsOf.calls _ _ l0 t296 _ ?side1 ?side2 A5.out).mono ?_); (case side1 => repeat (first | exact HR0.out | (with_reducible refine Kd.C_alloc ?_ _) | (with_reducible refine Kd.C_drewN ?_ _) | (with_reducible refine Kd.C_drew ?_))); (case side2 => exact HC0.out); rintro e w15 ⟨rfl, hb⟩; have n0_ := Aside0.mk (below_step (by repeat (first | (with_reducible first | exact HB.out | apply below_alloc | apply pw_below_drewN | apply below_drew1) | exact HB.out)) hb); clear HB; have HB := n0_; clear n0_; (try clear hb); (try clear hb2); (try clear hk); (try clear hi)))
  as_aux_lemma =>
  go_upto_region 12 with (first | (go_at_call 32; (with_reducible refine (impl_FactorsOf.calls k t296 t297 t298 _ A6.out).mono ?_); rintro e w16 ⟨v299, rfl, ho0, hb⟩; have n0_ := Aside0.mk (Kd.N_lower (Kd.N_mono (ok' := fun k_ => True) (Kd.S_N (Kd.S_bound ho0)) (fun k_ hk_ => trivial)) (below_size (by repeat (first | (with_reducible first | exact HB.out | apply below_alloc | apply pw_below_drewN | apply below_drew1) | exact HB.out)))); have n1_ := Aside0.mk (below_step (by repeat (first | (with_reducible first | exact HB.out | apply below_alloc | apply pw_below_drewN | apply below_drew1) | exact HB.out)) hb); clear HB; have HO300 := n0_; have HB := n1_; clear n0_ n1_; (try clear hb); (try clear hb2); (try clear hk); (try clear hi); (try clear ho0)))
  as_aux_lemma =>
  go_upto_region 12 with (first | (go_at_call 31; (with_reducible refine (spec_FactorsOf.calls k t296 t301 t302 _ A7.out).mono ?_); rintro e w17 ⟨v303, rfl, ho0, hb⟩; have n0_ := Aside0.mk (Kd.N_elder' (by (with_reducible repeat (first | apply Kd.N_alloc | apply Kd.N_drewN | apply Kd.N_drew)); exact HO300.out) (by first | exact Kd.N_base ho0 | exact Kd.N_base (Kd.S_N ho0)) hb); have n1_ := Aside0.mk (Kd.N_lower (Kd.N_mono (ok' := fun k_ => some k_ ≠ (v299 : Value).ownBlock) (Kd.S_N (Kd.S_bound ho0)) (fun k_ hk_ => (Kd.fresh' (Kd.N_lt (by (with_reducible repeat (first | apply Kd.N_alloc | apply Kd.N_drewN | apply Kd.N_drew)); exact HO300.out)) k_ hk_.2.1))) (below_size (by repeat (first | (with_reducible first | exact HB.out | apply below_alloc | apply pw_below_drewN | apply below_drew1) | exact HB.out)))); have n2_ := Aside0.mk (below_step (by repeat (first | (with_reducible first | exact HB.out | apply below_alloc | apply pw_below_drewN | apply below_drew1) | exact HB.out)) hb); clear HO300; clear HB; have HO300 := n0_; have HO304 := n1_; have HB := n2_; clear n0_ n1_ n2_; (try clear hb); (try clear hb2); (try clear hk); (try clear hi); (try clear ho0)))
  as_aux_lemma =>
  go_upto_region 12 with (first | (go_at_call 44; (with_reducible refine (impl_RadicalOf.calls k t296 t305 t306 _ A8.out).mono ?_); rintro e w18 ⟨rfl, hb⟩; have n0_ := Aside0.mk (Kd.N_below (by (with_reducible repeat (first | apply Kd.N_alloc | apply Kd.N_drewN | apply Kd.N_drew)); exact HO300.out) hb); have n1_ := Aside0.mk (Kd.N_below (by (with_reducible repeat (first | apply Kd.N_alloc | apply Kd.N_drewN | apply Kd.N_drew)); exact HO304.out) hb); have n2_ := Aside0.mk (below_step (by repeat (first | (with_reducible first | exact HB.out | apply below_alloc | apply pw_below_drewN | apply below_drew1) | exact HB.out)) hb); clear HO300; clear HO304; clear HB; have HO300 := n0_; have HO304 := n1_; have HB := n2_; clear n0_ n1_ n2_; (try clear hb); (try clear hb2); (try clear hk); (try clear hi)))
  as_aux_lemma =>
  go_upto_region 12 with (first | (go_at_call 45; (with_reducible refine (spec_RadicalOf.calls k t296 t307 t308 _ A9.out).mono ?_); rintro e w19 ⟨rfl, hb⟩; have n0_ := Aside0.mk (Kd.N_below (by (with_reducible repeat (first | apply Kd.N_alloc | apply Kd.N_drewN | apply Kd.N_drew)); exact HO300.out) hb); have n1_ := Aside0.mk (Kd.N_below (by (with_reducible repeat (first | apply Kd.N_alloc | apply Kd.N_drewN | apply Kd.N_drew)); exact HO304.out) hb); have n2_ := Aside0.mk (below_step (by repeat (first | (with_reducible first | exact HB.out | apply below_alloc | apply pw_below_drewN | apply below_drew1) | exact HB.out)) hb); clear HO300; clear HO304; clear HB; have HO300 := n0_; have HO304 := n1_; have HB := n2_; clear n0_ n1_ n2_; (try clear hb); (try clear hb2); (try clear hk); (try clear hi)))
  as_aux_lemma =>
  go_upto_region 12 with (first | (go_at_call 46; (with_reducible refine (impl_LeastFactor.calls k t296 t309 t310 _ A10.out).mono ?_); rintro e w' ⟨rfl, ⟨nd, rfl⟩⟩; (try first | exact ⟨rfl, _, World.drewN_drewN _ _ _⟩ | exact ⟨rfl, _, Eq.trans (World.drewN_drewN _ _ _) (congrArg (World.drewN _) (Nat.add_assoc _ _ _))⟩)))
  as_aux_lemma =>
  go_upto_region 12 with (first | (go_at_call 47; (with_reducible refine (spec_LeastFactor.calls k t296 t311 t312 _ A11.out).mono ?_); rintro e w' ⟨rfl, ⟨nd, rfl⟩⟩; (try first | exact ⟨rfl, _, World.drewN_drewN _ _ _⟩ | exact ⟨rfl, _, Eq.trans (World.drewN_drewN _ _ _) (congrArg (World.drewN _) (Nat.add_assoc _ _ _))⟩)))
  as_aux_lemma =>
  go_upto_region 12 with (first | (go_at_call 48; (with_reducible refine (impl_IsPrime.calls k t296 t313 t314 _ A12.out).mono ?_); rintro e w' ⟨rfl, ⟨nd, rfl⟩⟩; (try first | exact ⟨rfl, _, World.drewN_drewN _ _ _⟩ | exact ⟨rfl, _, Eq.trans (World.drewN_drewN _ _ _) (congrArg (World.drewN _) (Nat.add_assoc _ _ _))⟩)))
  as_aux_lemma =>
  go_upto_region 12 with (first | (go_at_call 49; (with_reducible refine (spec_IsPrime.calls k t296 t315 t316 _ A13.out).mono ?_); rintro e w' ⟨rfl, ⟨nd, rfl⟩⟩; (try first | exact ⟨rfl, _, World.drewN_drewN _ _ _⟩ | exact ⟨rfl, _, Eq.trans (World.drewN_drewN _ _ _) (congrArg (World.drewN _) (Nat.add_assoc _ _ _))⟩)))
  repeat (go_quiet (first | (go_at_call 53; (with_reducible refine (laws_big.calls _ _ l0 _ _ l1 false _ ?side1 ?side2 ?side3 ?side4 A3.out).mono ?_); (case side1 => repeat (first | exact HR0.out | (with_reducible refine Kd.C_alloc ?_ _) | (with_reducible refine Kd.C_drewN ?_ _) | (with_reducible refine Kd.C_drew ?_))); (case side2 => exact HC0.out); (case side3 => repeat (first | exact HR1.out | (with_reducible refine Kd.C_alloc ?_ _) | (with_reducible refine Kd.C_drewN ?_ _) | (with_reducible refine Kd.C_drew ?_))); (case side4 => exact HC1.out); rintro e w' ⟨rfl, ⟨nd, rfl⟩⟩; (try first | exact ⟨rfl, _, World.drewN_drewN _ _ _⟩ | exact ⟨rfl, _, Eq.trans (World.drewN_drewN _ _ _) (congrArg (World.drewN _) (Nat.add_assoc _ _ _))⟩)) | (go_at_call 54; (with_reducible refine (spec_DrawFactorsOf.calls _ _ l0 t296 _ ?side1 ?side2 A5.out).mono ?_); (case side1 => repeat (first | exact HR0.out | (with_reducible refine Kd.C_alloc ?_ _) | (with_reducible refine Kd.C_drewN ?_ _) | (with_reducible refine Kd.C_drew ?_))); (case side2 => exact HC0.out); rintro e w15 ⟨rfl, hb⟩; have n0_ := Aside0.mk (below_step (by repeat (first | (with_reducible first | exact HB.out | apply below_alloc | apply pw_below_drewN | apply below_drew1) | exact HB.out)) hb); clear HB; have HB := n0_; clear n0_; (try clear hb); (try clear hb2); (try clear hk); (try clear hi)) | (go_at_call 32; (with_reducible refine (impl_FactorsOf.calls k t296 t297 t298 _ A6.out).mono ?_); rintro e w16 ⟨v299, rfl, ho0, hb⟩; have n0_ := Aside0.mk (Kd.N_lower (Kd.N_mono (ok' := fun k_ => True) (Kd.S_N (Kd.S_bound ho0)) (fun k_ hk_ => trivial)) (below_size (by repeat (first | (with_reducible first | exact HB.out | apply below_alloc | apply pw_below_drewN | apply below_drew1) | exact HB.out)))); have n1_ := Aside0.mk (below_step (by repeat (first | (with_reducible first | exact HB.out | apply below_alloc | apply pw_below_drewN | apply below_drew1) | exact HB.out)) hb); clear HB; have HO300 := n0_; have HB := n1_; clear n0_ n1_; (try clear hb); (try clear hb2); (try clear hk); (try clear hi); (try clear ho0)) | (go_at_call 31; (with_reducible refine (spec_FactorsOf.calls k t296 t301 t302 _ A7.out).mono ?_); rintro e w17 ⟨v303, rfl, ho0, hb⟩; have n0_ := Aside0.mk (Kd.N_elder' (by (with_reducible repeat (first | apply Kd.N_alloc | apply Kd.N_drewN | apply Kd.N_drew)); exact HO300.out) (by first | exact Kd.N_base ho0 | exact Kd.N_base (Kd.S_N ho0)) hb); have n1_ := Aside0.mk (Kd.N_lower (Kd.N_mono (ok' := fun k_ => some k_ ≠ (v299 : Value).ownBlock) (Kd.S_N (Kd.S_bound ho0)) (fun k_ hk_ => (Kd.fresh' (Kd.N_lt (by (with_reducible repeat (first | apply Kd.N_alloc | apply Kd.N_drewN | apply Kd.N_drew)); exact HO300.out)) k_ hk_.2.1))) (below_size (by repeat (first | (with_reducible first | exact HB.out | apply below_alloc | apply pw_below_drewN | apply below_drew1) | exact HB.out)))); have n2_ := Aside0.mk (below_step (by repeat (first | (with_reducible first | exact HB.out | apply below_alloc | apply pw_below_drewN | apply below_drew1) | exact HB.out)) hb); clear HO300; clear HB; have HO300 := n0_; have HO304 := n1_; have HB := n2_; clear n0_ n1_ n2_; (try clear hb); (try clear hb2); (try clear hk); (try clear hi); (try clear ho0)) | (go_at_call 44; (with_reducible refine (impl_RadicalOf.calls k t296 t305 t306 _ A8.out).mono ?_); rintro e w18 ⟨rfl, hb⟩; have n0_ := Aside0.mk (Kd.N_below (by (with_reducible repeat (first | apply Kd.N_alloc | apply Kd.N_drewN | apply Kd.N_drew)); exact HO300.out) hb); have n1_ := Aside0.mk (Kd.N_below (by (with_reducible repeat (first | apply Kd.N_alloc | apply Kd.N_drewN | apply Kd.N_drew)); exact HO304.out) hb); have n2_ := Aside0.mk (below_step (by repeat (first | (with_reducible first | exact HB.out | apply below_alloc | apply pw_below_drewN | apply below_drew1) | exact HB.out)) hb); clear HO300; clear HO304; clear HB; have HO300 := n0_; have HO304 := n1_; have HB := n2_; clear n0_ n1_ n2_; (try clear hb); (try clear hb2); (try clear hk); (try clear hi)) | (go_at_call 45; (with_reducible refine (spec_RadicalOf.calls k t296 t307 t308 _ A9.out).mono ?_); rintro e w19 ⟨rfl, hb⟩; have n0_ := Aside0.mk (Kd.N_below (by (with_reducible repeat (first | apply Kd.N_alloc | apply Kd.N_drewN | apply Kd.N_drew)); exact HO300.out) hb); have n1_ := Aside0.mk (Kd.N_below (by (with_reducible repeat (first | apply Kd.N_alloc | apply Kd.N_drewN | apply Kd.N_drew)); exact HO304.out) hb); have n2_ := Aside0.mk (below_step (by repeat (first | (with_reducible first | exact HB.out | apply below_alloc | apply pw_below_drewN | apply below_drew1) | exact HB.out)) hb); clear HO300; clear HO304; clear HB; have HO300 := n0_; have HO304 := n1_; have HB := n2_; clear n0_ n1_ n2_; (try clear hb); (try clear hb2); (try clear hk); (try clear hi)) | (go_at_call 46; (with_reducible refine (impl_LeastFactor.calls k t296 t309 t310 _ A10.out).mono ?_); rintro e w' ⟨rfl, ⟨nd, rfl⟩⟩; (try first | exact ⟨rfl, _, World.drewN_drewN _ _ _⟩ | exact ⟨rfl, _, Eq.trans (World.drewN_drewN _ _ _) (congrArg (World.drewN _) (Nat.add_assoc _ _ _))⟩)) | (go_at_call 47; (with_reducible refine (spec_LeastFactor.calls k t296 t311 t312 _ A11.out).mono ?_); rintro e w' ⟨rfl, ⟨nd, rfl⟩⟩; (try first | exact ⟨rfl, _, World.drewN_drewN _ _ _⟩ | exact ⟨rfl, _, Eq.trans (World.drewN_drewN _ _ _) (congrArg (World.drewN _) (Nat.add_assoc _ _ _))⟩)) | (go_at_call 48; (with_reducible refine (impl_IsPrime.calls k t296 t313 t314 _ A12.out).mono ?_); rintro e w' ⟨rfl, ⟨nd, rfl⟩⟩; (try first | exact ⟨rfl, _, World.drewN_drewN _ _ _⟩ | exact ⟨rfl, _, Eq.trans (World.drewN_drewN _ _ _) (congrArg (World.drewN _) (Nat.add_assoc _ _ _))⟩)) | (go_at_call 49; (with_reducible refine (spec_IsPrime.calls k t296 t315 t316 _ A13.out).mono ?_); rintro e w' ⟨rfl, ⟨nd, rfl⟩⟩; (try first | exact ⟨rfl, _, World.drewN_drewN _ _ _⟩ | exact ⟨rfl, _, Eq.trans (World.drewN_drewN _ _ _) (congrArg (World.drewN _) (Nat.add_assoc _ _ _))⟩))); go_upto_region 12 with (first | (go_at_call 53; (with_reducible refine (laws_big.calls _ _ l0 _ _ l1 false _ ?side1 ?side2 ?side3 ?side4 A3.out).mono ?_); (case side1 => repeat (first | exact HR0.out | (with_reducible refine Kd.C_alloc ?_ _) | (with_reducible refine Kd.C_drewN ?_ _) | (with_reducible refine Kd.C_drew ?_))); (case side2 => exact HC0.out); (case side3 => repeat (first | exact HR1.out | (with_reducible refine Kd.C_alloc ?_ _) | (with_reducible refine Kd.C_drewN ?_ _) | (with_reducible refine Kd.C_drew ?_))); (case side4 => exact HC1.out); rintro e w' ⟨rfl, ⟨nd, rfl⟩⟩; (try first | exact ⟨rfl, _, World.drewN_drewN _ _ _⟩ | exact ⟨rfl, _, Eq.trans (World.drewN_drewN _ _ _) (congrArg (World.drewN _) (Nat.add_assoc _ _ _))⟩)) | (go_at_call 54; (with_reducible refine (spec_DrawFactorsOf.calls _ _ l0 t296 _ ?side1 ?side2 A5.out).mono ?_); (case side1 => repeat (first | exact HR0.out | (with_reducible refine Kd.C_alloc ?_ _) | (with_reducible refine Kd.C_drewN ?_ _) | (with_reducible refine Kd.C_drew ?_))); (case side2 => exact HC0.out); rintro e w15 ⟨rfl, hb⟩; have n0_ := Aside0.mk (below_step (by repeat (first | (with_reducible first | exact HB.out | apply below_alloc | apply pw_below_drewN | apply below_drew1) | exact HB.out)) hb); clear HB; have HB := n0_; clear n0_; (try clear hb); (try clear hb2); (try clear hk); (try clear hi)) | (go_at_call 32; (with_reducible refine (impl_FactorsOf.calls k t296 t297 t298 _ A6.out).mono ?_); rintro e w16 ⟨v299, rfl, ho0, hb⟩; have n0_ := Aside0.mk (Kd.N_lower (Kd.N_mono (ok' := fun k_ => True) (Kd.S_N (Kd.S_bound ho0)) (fun k_ hk_ => trivial)) (below_size (by repeat (first | (with_reducible first | exact HB.out | apply below_alloc | apply pw_below_drewN | apply below_drew1) | exact HB.out)))); have n1_ := Aside0.mk (below_step (by repeat (first | (with_reducible first | exact HB.out | apply below_alloc | apply pw_below_drewN | apply below_drew1) | exact HB.out)) hb); clear HB; have HO300 := n0_; have HB := n1_; clear n0_ n1_; (try clear hb); (try clear hb2); (try clear hk); (try clear hi); (try clear ho0)) | (go_at_call 31; (with_reducible refine (spec_FactorsOf.calls k t296 t301 t302 _ A7.out).mono ?_); rintro e w17 ⟨v303, rfl, ho0, hb⟩; have n0_ := Aside0.mk (Kd.N_elder' (by (with_reducible repeat (first | apply Kd.N_alloc | apply Kd.N_drewN | apply Kd.N_drew)); exact HO300.out) (by first | exact Kd.N_base ho0 | exact Kd.N_base (Kd.S_N ho0)) hb); have n1_ := Aside0.mk (Kd.N_lower (Kd.N_mono (ok' := fun k_ => some k_ ≠ (v299 : Value).ownBlock) (Kd.S_N (Kd.S_bound ho0)) (fun k_ hk_ => (Kd.fresh' (Kd.N_lt (by (with_reducible repeat (first | apply Kd.N_alloc | apply Kd.N_drewN | apply Kd.N_drew)); exact HO300.out)) k_ hk_.2.1))) (below_size (by repeat (first | (with_reducible first | exact HB.out | apply below_alloc | apply pw_below_drewN | apply below_drew1) | exact HB.out)))); have n2_ := Aside0.mk (below_step (by repeat (first | (with_reducible first | exact HB.out | apply below_alloc | apply pw_below_drewN | apply below_drew1) | exact HB.out)) hb); clear HO300; clear HB; have HO300 := n0_; have HO304 := n1_; have HB := n2_; clear n0_ n1_ n2_; (try clear hb); (try clear hb2); (try clear hk); (try clear hi); (try clear ho0)) | (go_at_call 44; (with_reducible refine (impl_RadicalOf.calls k t296 t305 t306 _ A8.out).mono ?_); rintro e w18 ⟨rfl, hb⟩; have n0_ := Aside0.mk (Kd.N_below (by (with_reducible repeat (first | apply Kd.N_alloc | apply Kd.N_drewN | apply Kd.N_drew)); exact HO300.out) hb); have n1_ := Aside0.mk (Kd.N_below (by (with_reducible repeat (first | apply Kd.N_alloc | apply Kd.N_drewN | apply Kd.N_drew)); exact HO304.out) hb); have n2_ := Aside0.mk (below_step (by repeat (first | (with_reducible first | exact HB.out | apply below_alloc | apply pw_below_drewN | apply below_drew1) | exact HB.out)) hb); clear HO300; clear HO304; clear HB; have HO300 := n0_; have HO304 := n1_; have HB := n2_; clear n0_ n1_ n2_; (try clear hb); (try clear hb2); (try clear hk); (try clear hi)) | (go_at_call 45; (with_reducible refine (spec_RadicalOf.calls k t296 t307 t308 _ A9.out).mono ?_); rintro e w19 ⟨rfl, hb⟩; have n0_ := Aside0.mk (Kd.N_below (by (with_reducible repeat (first | apply Kd.N_alloc | apply Kd.N_drewN | apply Kd.N_drew)); exact HO300.out) hb); have n1_ := Aside0.mk (Kd.N_below (by (with_reducible repeat (first | apply Kd.N_alloc | apply Kd.N_drewN | apply Kd.N_drew)); exact HO304.out) hb); have n2_ := Aside0.mk (below_step (by repeat (first | (with_reducible first | exact HB.out | apply below_alloc | apply pw_below_drewN | apply below_drew1) | exact HB.out)) hb); clear HO300; clear HO304; clear HB; have HO300 := n0_; have HO304 := n1_; have HB := n2_; clear n0_ n1_ n2_; (try clear hb); (try clear hb2); (try clear hk); (try clear hi)) | (go_at_call 46; (with_reducible refine (impl_LeastFactor.calls k t296 t309 t310 _ A10.out).mono ?_); rintro e w' ⟨rfl, ⟨nd, rfl⟩⟩; (try first | exact ⟨rfl, _, World.drewN_drewN _ _ _⟩ | exact ⟨rfl, _, Eq.trans (World.drewN_drewN _ _ _) (congrArg (World.drewN _) (Nat.add_assoc _ _ _))⟩)) | (go_at_call 47; (with_reducible refine (spec_LeastFactor.calls k t296 t311 t312 _ A11.out).mono ?_); rintro e w' ⟨rfl, ⟨nd, rfl⟩⟩; (try first | exact ⟨rfl, _, World.drewN_drewN _ _ _⟩ | exact ⟨rfl, _, Eq.trans (World.drewN_drewN _ _ _) (congrArg (World.drewN _) (Nat.add_assoc _ _ _))⟩)) | (go_at_call 48; (with_reducible refine (impl_IsPrime.calls k t296 t313 t314 _ A12.out).mono ?_); rintro e w' ⟨rfl, ⟨nd, rfl⟩⟩; (try first | exact ⟨rfl, _, World.drewN_drewN _ _ _⟩ | exact ⟨rfl, _, Eq.trans (World.drewN_drewN _ _ _) (congrArg (World.drewN _) (Nat.add_assoc _ _ _))⟩)) | (go_at_call 49; (with_reducible refine (spec_IsPrime.calls k t296 t315 t316 _ A13.out).mono ?_); rintro e w' ⟨rfl, ⟨nd, rfl⟩⟩; (try first | exact ⟨rfl, _, World.drewN_drewN _ _ _⟩ | exact ⟨rfl, _, Eq.trans (World.drewN_drewN _ _ _) (congrArg (World.drewN _) (Nat.add_assoc _ _ _))⟩))))
  (try simp only [Act.put, List.setIfInBounds_toArray, List.set_cons_zero, List.set_cons_succ])
  go_cut [148] from 9999 to 9999 (fun v148 wc => ∃ (kq : Nat) (x148_13 : Bool), v148 = .bool x148_13 ∧ Aside0 (laws_FnFactorsTold.j0 kq l1 t296 t297 t298 t305 t309 t310 t313 x148_13 = some r) ∧ Aside0 (kq ≤ k) ∧ Aside0 (Kd.N (Kd.slice 3 (Kd.int .i64)) 28 wc w.heap.size (fun _ => True) v299 t297) ∧ Aside0 (Below w.heap.size w wc))
  case first =>
   as_aux_lemma =>
   have H := HC14.out
   clear HC14
   have c20 : ¬ ((t298 != t302) = true) := fun c20 => by
    rw [if_pos c20] at H
    exact absurd H (by simp)
   rw [if_neg c20] at H
   have c20b0 : (t298 != t302) = false := by simpa using c20
   (try (have c20b1 : decide (t298 = t302) = true := by simpa using c20))
   (try (have c20b2 : (t298 == t302) = true := by simpa using c20))
   clear c20
   (first | rw [c20b0] | (simp only [i64_w, i32_w]; rw [c20b0]) | skip)
   replace H := Option.bind_eq_some_iff.mp H
   obtain ⟨t317, A210, H⟩ := H
   replace H : (if t317 = true then (if (t306 != t308) = true then (none) else (if t305 = t307 then (if (t310 != t312) = true then (none) else (if t309 = t311 then (if (t314 != t316) = true then (none) else (if (t313 != t315) = true then (none) else (if (t306 != t298) = true then (none) else (if t298 = true then (if (t310 != (decide (t296 > 1))) = true then (none) else (laws_FnFactorsTold.j0 k l1 t296 t297 t298 t305 t309 t310 t313 (!t314))) else (if (t310 != false) = true then (none) else (laws_FnFactorsTold.j0 k l1 t296 t297 t298 t305 t309 t310 t313 false)))))) else (none))) else (none))) else (none)) = some r := H
   have A21 := Aside0.mk A210
   clear A210
   have c22 : t317 = true := Classical.byContradiction fun c22 => by
    replace c22 := Bool.eq_false_iff.mpr c22
    subst c22
    have H1 : (none) = some r := by rw [if_neg (show ¬ (false = true) by decide)] at H; exact H
    clear H
    have H := H1
    clear H1
    exact absurd H (by simp)
   subst c22
   have H1 : (if (t306 != t308) = true then (none) else (if t305 = t307 then (if (t310 != t312) = true then (none) else (if t309 = t311 then (if (t314 != t316) = true then (none) else (if (t313 != t315) = true then (none) else (if (t306 != t298) = true then (none) else (if t298 = true then (if (t310 != (decide (t296 > 1))) = true then (none) else (laws_FnFactorsTold.j0 k l1 t296 t297 t298 t305 t309 t310 t313 (!t314))) else (if (t310 != false) = true then (none) else (laws_FnFactorsTold.j0 k l1 t296 t297 t298 t305 t309 t310 t313 false)))))) else (none))) else (none))) = some r := by rw [if_pos rfl] at H; exact H
   clear H
   have H := H1
   clear H1
   have c23 : ¬ ((t306 != t308) = true) := fun c23 => by
    rw [if_pos c23] at H
    exact absurd H (by simp)
   rw [if_neg c23] at H
   have c23b0 : (t306 != t308) = false := by simpa using c23
   (try (have c23b1 : decide (t306 = t308) = true := by simpa using c23))
   (try (have c23b2 : (t306 == t308) = true := by simpa using c23))
   clear c23
   have c24 : t305 = t307 := Classical.byContradiction fun c24 => by
    rw [if_neg c24] at H
    exact absurd H (by simp)
   rw [if_pos c24] at H
   have c24b0 : (t305 == t307) = true := beq_iff_eq.mpr c24
   have c24b1 : (t305 != t307) = false := bne_eq_false_iff_eq.mpr c24
   clear c24
   have c25 : ¬ ((t310 != t312) = true) := fun c25 => by
    rw [if_pos c25] at H
    exact absurd H (by simp)
   rw [if_neg c25] at H
   have c25b0 : (t310 != t312) = false := by simpa using c25
   (try (have c25b1 : decide (t310 = t312) = true := by simpa using c25))
   (try (have c25b2 : (t310 == t312) = true := by simpa using c25))
   clear c25
   have c26 : t309 = t311 := Classical.byContradiction fun c26 => by
    rw [if_neg c26] at H
    exact absurd H (by simp)
   rw [if_pos c26] at H
   have c26b0 : (t309 == t311) = true := beq_iff_eq.mpr c26
   have c26b1 : (t309 != t311) = false := bne_eq_false_iff_eq.mpr c26
   clear c26
   have c27 : ¬ ((t314 != t316) = true) := fun c27 => by
    rw [if_pos c27] at H
    exact absurd H (by simp)
   rw [if_neg c27] at H
   have c27b0 : (t314 != t316) = false := by simpa using c27
   (try (have c27b1 : decide (t314 = t316) = true := by simpa using c27))
   (try (have c27b2 : (t314 == t316) = true := by simpa using c27))
   clear c27
   have c28 : ¬ ((t313 != t315) = true) := fun c28 => by
    rw [if_pos c28] at H
    exact absurd H (by simp)
   rw [if_neg c28] at H
   have c28b0 : (t313 != t315) = false := by simpa using c28
   (try (have c28b1 : decide (t313 = t315) = true := by simpa using c28))
   (try (have c28b2 : (t313 == t315) = true := by simpa using c28))
   clear c28
   have c29 : ¬ ((t306 != t298) = true) := fun c29 => by
    rw [if_pos c29] at H
    exact absurd H (by simp)
   rw [if_neg c29] at H
   have c29b0 : (t306 != t298) = false := by simpa using c29
   (try (have c29b1 : decide (t306 = t298) = true := by simpa using c29))
   (try (have c29b2 : (t306 == t298) = true := by simpa using c29))
   clear c29
   by_cases c30 : t298 = true
   ·subst c30
    have H1 : (if (t310 != (decide (t296 > 1))) = true then (none) else (laws_FnFactorsTold.j0 k l1 t296 t297 true t305 t309 t310 t313 (!t314))) = some r := by rw [if_pos rfl] at H; exact H
    clear H
    have H := H1
    clear H1
    have c31 : ¬ ((t310 != (decide (t296 > 1))) = true) := fun c31 => by
     rw [if_pos c31] at H
     exact absurd H (by simp)
    rw [if_neg c31] at H
    have c31b0 : (t310 != (decide (t296 > 1))) = false := by simpa using c31
    (try (have c31b1 : decide (t310 = (decide (t296 > 1))) = true := by simpa using c31))
    (try (have c31b2 : (t310 == (decide (t296 > 1))) = true := by simpa using c31))
    clear c31
    have H' := Aside0.mk H
    clear H
    obtain ⟨Ao32, co32, eo32⟩ := Kd.N_slice HO300.out
    subst eo32
    obtain ⟨Ao33, co33, eo33⟩ := Kd.N_slice HO304.out
    subst eo33
    go_wp2_with (first | (go_at_call 50; (with_reducible refine (laws_gLists.calls k _ _ t297 _ _ t301 true _ ?side1 ?side2 ?side3 ?side4 A21.out).mono ?_); (case side1 => repeat (first | exact (Kd.N_reads' HO300.out).2.2 | (with_reducible refine Kd.C_alloc ?_ _) | (with_reducible refine Kd.C_drewN ?_ _) | (with_reducible refine Kd.C_drew ?_))); (case side2 => exact (Kd.N_reads' HO300.out).2.1); (case side3 => repeat (first | exact (Kd.N_reads' HO304.out).2.2 | (with_reducible refine Kd.C_alloc ?_ _) | (with_reducible refine Kd.C_drewN ?_ _) | (with_reducible refine Kd.C_drew ?_))); (case side4 => exact (Kd.N_reads' HO304.out).2.1); rintro e w' ⟨rfl, ⟨nd, rfl⟩⟩; (try first | exact ⟨rfl, _, World.drewN_drewN _ _ _⟩ | exact ⟨rfl, _, Eq.trans (World.drewN_drewN _ _ _) (congrArg (World.drewN _) (Nat.add_assoc _ _ _))⟩)))
    repeat (go_quiet (first | (go_at_call 50; (with_reducible refine (laws_gLists.calls k _ _ t297 _ _ t301 true _ ?side1 ?side2 ?side3 ?side4 A21.out).mono ?_); (case side1 => repeat (first | exact (Kd.N_reads' HO300.out).2.2 | (with_reducible refine Kd.C_alloc ?_ _) | (with_reducible refine Kd.C_drewN ?_ _) | (with_reducible refine Kd.C_drew ?_))); (case side2 => exact (Kd.N_reads' HO300.out).2.1); (case side3 => repeat (first | exact (Kd.N_reads' HO304.out).2.2 | (with_reducible refine Kd.C_alloc ?_ _) | (with_reducible refine Kd.C_drewN ?_ _) | (with_reducible refine Kd.C_drew ?_))); (case side4 => exact (Kd.N_reads' HO304.out).2.1); rintro e w' ⟨rfl, ⟨nd, rfl⟩⟩; (try first | exact ⟨rfl, _, World.drewN_drewN _ _ _⟩ | exact ⟨rfl, _, Eq.trans (World.drewN_drewN _ _ _) (congrArg (World.drewN _) (Nat.add_assoc _ _ _))⟩))); try go_wp2_with (first | (go_at_call 50; (with_reducible refine (laws_gLists.calls k _ _ t297 _ _ t301 true _ ?side1 ?side2 ?side3 ?side4 A21.out).mono ?_); (case side1 => repeat (first | exact (Kd.N_reads' HO300.out).2.2 | (with_reducible refine Kd.C_alloc ?_ _) | (with_reducible refine Kd.C_drewN ?_ _) | (with_reducible refine Kd.C_drew ?_))); (case side2 => exact (Kd.N_reads' HO300.out).2.1); (case side3 => repeat (first | exact (Kd.N_reads' HO304.out).2.2 | (with_reducible refine Kd.C_alloc ?_ _) | (with_reducible refine Kd.C_drewN ?_ _) | (with_reducible refine Kd.C_drew ?_))); (case side4 => exact (Kd.N_reads' HO304.out).2.1); rintro e w' ⟨rfl, ⟨nd, rfl⟩⟩; (try first | exact ⟨rfl, _, World.drewN_drewN _ _ _⟩ | exact ⟨rfl, _, Eq.trans (World.drewN_drewN _ _ _) (congrArg (World.drewN _) (Nat.add_assoc _ _ _))⟩))))
    go_meet
    case rel => exact ⟨_, (!t314), (by first | rfl | (simp; done) | (simp [*]; done)), H', ⟨by first | omega | exact Nat.le_refl _⟩, ⟨by (with_reducible repeat (first | apply Kd.N_alloc | apply Kd.N_drewN | apply Kd.N_drew)); exact Kd.N_mono HO300.out (fun _ hk => trivial)⟩, ⟨by repeat (first | (with_reducible first | exact HB.out | apply below_alloc | apply pw_below_drewN | apply below_drew1) | exact HB.out)⟩⟩
   ·replace c30 := Bool.eq_false_iff.mpr c30
    subst c30
    have H1 : (if (t310 != false) = true then (none) else (laws_FnFactorsTold.j0 k l1 t296 t297 false t305 t309 t310 t313 false)) = some r := by rw [if_neg (show ¬ (false = true) by decide)] at H; exact H
    clear H
    have H := H1
    clear H1
    have c34 : ¬ ((t310 != false) = true) := fun c34 => by
     rw [if_pos c34] at H
     exact absurd H (by simp)
    rw [if_neg c34] at H
    have hT_ : t310 = false := by simpa using c34
    clear c34
    subst hT_
    have H' := Aside0.mk H
    clear H
    obtain ⟨Ao35, co35, eo35⟩ := Kd.N_slice HO300.out
    subst eo35
    obtain ⟨Ao36, co36, eo36⟩ := Kd.N_slice HO304.out
    subst eo36
    go_wp2_with (first | (go_at_call 50; (with_reducible refine (laws_gLists.calls k _ _ t297 _ _ t301 true _ ?side1 ?side2 ?side3 ?side4 A21.out).mono ?_); (case side1 => repeat (first | exact (Kd.N_reads' HO300.out).2.2 | (with_reducible refine Kd.C_alloc ?_ _) | (with_reducible refine Kd.C_drewN ?_ _) | (with_reducible refine Kd.C_drew ?_))); (case side2 => exact (Kd.N_reads' HO300.out).2.1); (case side3 => repeat (first | exact (Kd.N_reads' HO304.out).2.2 | (with_reducible refine Kd.C_alloc ?_ _) | (with_reducible refine Kd.C_drewN ?_ _) | (with_reducible refine Kd.C_drew ?_))); (case side4 => exact (Kd.N_reads' HO304.out).2.1); rintro e w' ⟨rfl, ⟨nd, rfl⟩⟩; (try first | exact ⟨rfl, _, World.drewN_drewN _ _ _⟩ | exact ⟨rfl, _, Eq.trans (World.drewN_drewN _ _ _) (congrArg (World.drewN _) (Nat.add_assoc _ _ _))⟩)))
    repeat (go_quiet (first | (go_at_call 50; (with_reducible refine (laws_gLists.calls k _ _ t297 _ _ t301 true _ ?side1 ?side2 ?side3 ?side4 A21.out).mono ?_); (case side1 => repeat (first | exact (Kd.N_reads' HO300.out).2.2 | (with_reducible refine Kd.C_alloc ?_ _) | (with_reducible refine Kd.C_drewN ?_ _) | (with_reducible refine Kd.C_drew ?_))); (case side2 => exact (Kd.N_reads' HO300.out).2.1); (case side3 => repeat (first | exact (Kd.N_reads' HO304.out).2.2 | (with_reducible refine Kd.C_alloc ?_ _) | (with_reducible refine Kd.C_drewN ?_ _) | (with_reducible refine Kd.C_drew ?_))); (case side4 => exact (Kd.N_reads' HO304.out).2.1); rintro e w' ⟨rfl, ⟨nd, rfl⟩⟩; (try first | exact ⟨rfl, _, World.drewN_drewN _ _ _⟩ | exact ⟨rfl, _, Eq.trans (World.drewN_drewN _ _ _) (congrArg (World.drewN _) (Nat.add_assoc _ _ _))⟩))); try go_wp2_with (first | (go_at_call 50; (with_reducible refine (laws_gLists.calls k _ _ t297 _ _ t301 true _ ?side1 ?side2 ?side3 ?side4 A21.out).mono ?_); (case side1 => repeat (first | exact (Kd.N_reads' HO300.out).2.2 | (with_reducible refine Kd.C_alloc ?_ _) | (with_reducible refine Kd.C_drewN ?_ _) | (with_reducible refine Kd.C_drew ?_))); (case side2 => exact (Kd.N_reads' HO300.out).2.1); (case side3 => repeat (first | exact (Kd.N_reads' HO304.out).2.2 | (with_reducible refine Kd.C_alloc ?_ _) | (with_reducible refine Kd.C_drewN ?_ _) | (with_reducible refine Kd.C_drew ?_))); (case side4 => exact (Kd.N_reads' HO304.out).2.1); rintro e w' ⟨rfl, ⟨nd, rfl⟩⟩; (try first | exact ⟨rfl, _, World.drewN_drewN _ _ _⟩ | exact ⟨rfl, _, Eq.trans (World.drewN_drewN _ _ _) (congrArg (World.drewN _) (Nat.add_assoc _ _ _))⟩))))
    go_meet
    case rel => exact ⟨_, (false), (by first | rfl | (simp; done) | (simp [*]; done)), H', ⟨by first | omega | exact Nat.le_refl _⟩, ⟨by (with_reducible repeat (first | apply Kd.N_alloc | apply Kd.N_drewN | apply Kd.N_drew)); exact Kd.N_mono HO300.out (fun _ hk => trivial)⟩, ⟨by repeat (first | (with_reducible first | exact HB.out | apply below_alloc | apply pw_below_drewN | apply below_drew1) | exact HB.out)⟩⟩
  case rest =>
   as_aux_lemma =>
   clear HC14
   try clear c1
   try clear c2
   try clear p2
   try clear c3
   try clear c4
   try clear c13
   try clear c20
   try clear c20b0
   try clear c20b1
   try clear c20b2
   try clear c22
   try clear c23
   try clear c23b0
   try clear c23b1
   try clear c23b2
   try clear c24
   try clear c24b0
   try clear c24b1
   try clear c25
   try clear c25b0
   try clear c25b1
   try clear c25b2
   try clear c26
   try clear c26b0
   try clear c26b1
   try clear c27
   try clear c27b0
   try clear c27b1
   try clear c27b2
   try clear c28
   try clear c28b0
   try clear c28b1
   try clear c28b2
   try clear c29
   try clear c29b0
   try clear c29b1
   try clear c29b2
   try clear c30
   try clear c31
   try clear c31b0
   try clear c31b1
   try clear c31b2
   try clear c34
   try clear c34b0
   try clear c34b1
   try clear c34b2
   obtain ⟨kq, x148_13, rfl, HA, HJ13, HO_6, HB⟩ := hcut
   cases kq with
   | zero => exact absurd HA.out (by simp [laws_FnFactorsTold.j0])
   | succ kj13 =>
    have H := HA.out
    clear HA
    simp only [laws_FnFactorsTold.j0] at H
    have c37 : ¬ (x148_13 = true) := fun c37 => by
     subst c37
     have H1 : (none) = some r := by rw [if_pos rfl] at H; exact H
     clear H
     have H := H1
     clear H1
     exact absurd H (by simp)
    replace c37 := Bool.eq_false_iff.mpr c37
    subst c37
    have H1 : (if t298 = true then ((impl_NumberOfFactors.f kj13 t297).bind fun bt318 => (if bt318.2 = true then (if bt318.1 = t296 then (if (t297.length : Int) = 1 then (if 0 < (t297.length : Int) then (if 1 < ((rd_L1 t297 0).length : Int) then (if (t313 != ((rd (rd_L1 t297 0) 1) == 1)) = true then (none) else (if t305 = 0 then (none) else (if (Int.tmod t296 t305) = 0 then (if t310 = true then (if 0 < ((rd_L1 t297 0).length : Int) then (if t309 = (rd (rd_L1 t297 0) 0) then (if t309 = 0 then (none) else (laws_FnFactorsTold.j1 kj13 l1 t296 t297 t305 ((Int.tmod t296 t309) != 0))) else (none)) else (none)) else (laws_FnFactorsTold.j1 kj13 l1 t296 t297 t305 false)) else (none)))) else (none)) else (none)) else (if (t313 != false) = true then (none) else (if t305 = 0 then (none) else (if (Int.tmod t296 t305) = 0 then (if t310 = true then (if 0 < (t297.length : Int) then (if 0 < ((rd_L1 t297 0).length : Int) then (if t309 = (rd (rd_L1 t297 0) 0) then (if t309 = 0 then (none) else (laws_FnFactorsTold.j1 kj13 l1 t296 t297 t305 ((Int.tmod t296 t309) != 0))) else (none)) else (none)) else (none)) else (laws_FnFactorsTold.j1 kj13 l1 t296 t297 t305 false)) else (none))))) else (none)) else (none))) else (laws_FnFactorsTold.j3 kj13 l1)) = some r := by rw [if_neg (show ¬ (false = true) by decide)] at H; exact H
    clear H
    have H := H1
    clear H1
    have HC38 := Aside0.mk H
    clear H
    go_upto_if 149 with (fail)
    repeat (go_quiet (fail); go_upto_if 149 with (fail))
    go_cut [] from 9999 to 9999 (fun wc => ∃ (kq : Nat), Aside0 (laws_FnFactorsTold.j3 kq l1 = some r) ∧ Aside0 (kq ≤ kj13) ∧ Aside0 (Below w.heap.size w wc))
    case first =>
     as_aux_lemma =>
     have H := HC38.out
     clear HC38
     by_cases c39 : t298 = true
     ·subst c39
      have H1 : ((impl_NumberOfFactors.f kj13 t297).bind fun bt318 => (if bt318.2 = true then (if bt318.1 = t296 then (if (t297.length : Int) = 1 then (if 0 < (t297.length : Int) then (if 1 < ((rd_L1 t297 0).length : Int) then (if (t313 != ((rd (rd_L1 t297 0) 1) == 1)) = true then (none) else (if t305 = 0 then (none) else (if (Int.tmod t296 t305) = 0 then (if t310 = true then (if 0 < ((rd_L1 t297 0).length : Int) then (if t309 = (rd (rd_L1 t297 0) 0) then (if t309 = 0 then (none) else (laws_FnFactorsTold.j1 kj13 l1 t296 t297 t305 ((Int.tmod t296 t309) != 0))) else (none)) else (none)) else (laws_FnFactorsTold.j1 kj13 l1 t296 t297 t305 false)) else (none)))) else (none)) else (none)) else (if (t313 != false) = true then (none) else (if t305 = 0 then (none) else (if (Int.tmod t296 t305) = 0 then (if t310 = true then (if 0 < (t297.length : Int) then (if 0 < ((rd_L1 t297 0).length : Int) then (if t309 = (rd (rd_L1 t297 0) 0) then (if t309 = 0 then (none) else (laws_FnFactorsTold.j1 kj13 l1 t296 t297 t305 ((Int.tmod t296 t309) != 0))) else (none)) else (none)) else (none)) else (laws_FnFactorsTold.j1 kj13 l1 t296 t297 t305 false)) else (none))))) else (none)) else (none))) = some r := by rw [if_pos rfl] at H; exact H
      clear H
      have H := H1
      clear H1
      replace H := Option.bind_eq_some_iff.mp H
      obtain ⟨⟨t318, t319⟩, A400, H⟩ := H
      replace H : (if t319 = true then (if t318 = t296 then (if (t297.length : Int) = 1 then (if 0 < (t297.length : Int) then (if 1 < ((rd_L1 t297 0).length : Int) then (if (t313 != ((rd (rd_L1 t297 0) 1) == 1)) = true then (none) else (if t305 = 0 then (none) else (if (Int.tmod t296 t305) = 0 then (if t310 = true then (if 0 < ((rd_L1 t297 0).length : Int) then (if t309 = (rd (rd_L1 t297 0) 0) then (if t309 = 0 then (none) else (laws_FnFactorsTold.j1 kj13 l1 t296 t297 t305 ((Int.tmod t296 t309) != 0))) else (none)) else (none)) else (laws_FnFactorsTold.j1 kj13 l1 t296 t297 t305 false)) else (none)))) else (none)) else (none)) else (if (t313 != false) = true then (none) else (if t305 = 0 then (none) else (if (Int.tmod t296 t305) = 0 then (if t310 = true then (if 0 < (t297.length : Int) then (if 0 < ((rd_L1 t297 0).length : Int) then (if t309 = (rd (rd_L1 t297 0) 0) then (if t309 = 0 then (none) else (laws_FnFactorsTold.j1 kj13 l1 t296 t297 t305 ((Int.tmod t296 t309) != 0))) else (none)) else (none)) else (none)) else (laws_FnFactorsTold.j1 kj13 l1 t296 t297 t305 false)) else (none))))) else (none)) else (none)) = some r := H
      have A40 := Aside0.mk A400
      clear A400
      have HC41 := Aside0.mk H
      clear H
      obtain ⟨Ao42, co42, eo42⟩ := Kd.N_slice HO_6.out
      subst eo42
      go_upto_region 16 with (first | (go_at_call 39; (with_reducible refine (impl_NumberOfFactors.calls kj13 _ _ t297 t318 t319 _ ?side1 ?side2 A40.out).mono ?_); (case side1 => repeat (first | exact (Kd.N_reads' HO_6.out).2.2 | (with_reducible refine Kd.C_alloc ?_ _) | (with_reducible refine Kd.C_drewN ?_ _) | (with_reducible refine Kd.C_drew ?_))); (case side2 => exact (Kd.N_reads' HO_6.out).2.1); rintro e w43 ⟨rfl, hb⟩; have n0_ := Aside0.mk (Kd.N_below (by (with_reducible repeat (first | apply Kd.N_alloc | apply Kd.N_drewN | apply Kd.N_drew)); exact HO_6.out) hb); have n1_ := Aside0.mk (below_step (by repeat (first | (with_reducible first | exact HB.out | apply below_alloc | apply pw_below_drewN | apply below_drew1) | exact HB.out)) hb); clear HO_6; clear HB; have HO_6 := n0_; have HB := n1_; clear n0_ n1_; (try clear hb); (try clear hb2); (try clear hk); (try clear hi)))
      repeat (go_quiet (first | (go_at_call 39; (with_reducible refine (impl_NumberOfFactors.calls kj13 _ _ t297 t318 t319 _ ?side1 ?side2 A40.out).mono ?_); (case side1 => repeat (first | exact (Kd.N_reads' HO_6.out).2.2 | (with_reducible refine Kd.C_alloc ?_ _) | (with_reducible refine Kd.C_drewN ?_ _) | (with_reducible refine Kd.C_drew ?_))); (case side2 => exact (Kd.N_reads' HO_6.out).2.1); rintro e w43 ⟨rfl, hb⟩; have n0_ := Aside0.mk (Kd.N_below (by (with_reducible repeat (first | apply Kd.N_alloc | apply Kd.N_drewN | apply Kd.N_drew)); exact HO_6.out) hb); have n1_ := Aside0.mk (below_step (by repeat (first | (with_reducible first | exact HB.out | apply below_alloc | apply pw_below_drewN | apply below_drew1) | exact HB.out)) hb); clear HO_6; clear HB; have HO_6 := n0_; have HB := n1_; clear n0_ n1_; (try clear hb); (try clear hb2); (try clear hk); (try clear hi))); go_upto_region 16 with (first | (go_at_call 39; (with_reducible refine (impl_NumberOfFactors.calls kj13 _ _ t297 t318 t319 _ ?side1 ?side2 A40.out).mono ?_); (case side1 => repeat (first | exact (Kd.N_reads' HO_6.out).2.2 | (with_reducible refine Kd.C_alloc ?_ _) | (with_reducible refine Kd.C_drewN ?_ _) | (with_reducible refine Kd.C_drew ?_))); (case side2 => exact (Kd.N_reads' HO_6.out).2.1); rintro e w43 ⟨rfl, hb⟩; have n0_ := Aside0.mk (Kd.N_below (by (with_reducible repeat (first | apply Kd.N_alloc | apply Kd.N_drewN | apply Kd.N_drew)); exact HO_6.out) hb); have n1_ := Aside0.mk (below_step (by repeat (first | (with_reducible first | exact HB.out | apply below_alloc | apply pw_below_drewN | apply below_drew1) | exact HB.out)) hb); clear HO_6; clear HB; have HO_6 := n0_; have HB := n1_; clear n0_ n1_; (try clear hb); (try clear hb2); (try clear hk); (try clear hi))))
      (try simp only [Act.put, List.setIfInBounds_toArray, List.set_cons_zero, List.set_cons_succ])
      go_cut [200] from 9999 to 9999 (fun v200 wc => ∃ (kq : Nat) (x200_40 : Bool), v200 = .bool x200_40 ∧ Aside0 (laws_FnFactorsTold.j1 kq l1 t296 t297 t305 x200_40 = some r) ∧ Aside0 (kq ≤ kj13) ∧ Aside0 (Kd.N (Kd.slice 3 (Kd.int .i64)) 28 wc w.heap.size (fun _ => True) (.slice Ao42 t297.length co42) t297) ∧ Aside0 (Below w.heap.size w wc))
      case first =>
       as_aux_lemma =>
       have H := HC41.out
       clear HC41
       have c44 : t319 = true := Classical.byContradiction fun c44 => by
        replace c44 := Bool.eq_false_iff.mpr c44
        subst c44
        have H1 : (none) = some r := by rw [if_neg (show ¬ (false = true) by decide)] at H; exact H
        clear H
        have H := H1
        clear H1
        exact absurd H (by simp)
       subst c44
       have H1 : (if t318 = t296 then (if (t297.length : Int) = 1 then (if 0 < (t297.length : Int) then (if 1 < ((rd_L1 t297 0).length : Int) then (if (t313 != ((rd (rd_L1 t297 0) 1) == 1)) = true then (none) else (if t305 = 0 then (none) else (if (Int.tmod t296 t305) = 0 then (if t310 = true then (if 0 < ((rd_L1 t297 0).length : Int) then (if t309 = (rd (rd_L1 t297 0) 0) then (if t309 = 0 then (none) else (laws_FnFactorsTold.j1 kj13 l1 t296 t297 t305 ((Int.tmod t296 t309) != 0))) else (none)) else (none)) else (laws_FnFactorsTold.j1 kj13 l1 t296 t297 t305 false)) else (none)))) else (none)) else (none)) else (if (t313 != false) = true then (none) else (if t305 = 0 then (none) else (if (Int.tmod t296 t305) = 0 then (if t310 = true then (if 0 < (t297.length : Int) then (if 0 < ((rd_L1 t297 0).length : Int) then (if t309 = (rd (rd_L1 t297 0) 0) then (if t309 = 0 then (none) else (laws_FnFactorsTold.j1 kj13 l1 t296 t297 t305 ((Int.tmod t296 t309) != 0))) else (none)) else (none)) else (none)) else (laws_FnFactorsTold.j1 kj13 l1 t296 t297 t305 false)) else (none))))) else (none)) = some r := by rw [if_pos rfl] at H; exact H
       clear H
       have H := H1
       clear H1
       have c45 : t318 = t296 := Classical.byContradiction fun c45 => by
        rw [if_neg c45] at H
        exact absurd H (by simp)
       rw [if_pos c45] at H
       have c45b0 : (t318 == t296) = true := beq_iff_eq.mpr c45
       have c45b1 : (t318 != t296) = false := bne_eq_false_iff_eq.mpr c45
       clear c45
       (first | rw [c45b0] | (simp only [i64_w, i32_w]; rw [c45b0]) | skip)
       by_cases c46 : (t297.length : Int) = 1
       ·as_aux_lemma =>
        rw [if_pos c46] at H
        have c46b0 : ((t297.length : Int) == 1) = true := beq_iff_eq.mpr c46
        have c46b1 : ((t297.length : Int) != 1) = false := bne_eq_false_iff_eq.mpr c46
        clear c46
        have c47 : 0 < (t297.length : Int) := Classical.byContradiction fun c47 => by
         rw [if_neg c47] at H
         exact absurd H (by simp)
        rw [if_pos c47] at H
        have c47b0 : decide (0 < (t297.length : Int)) = true := decide_eq_true c47
        have c47b1 : decide (0 < t297.length) = true := decide_eq_true (by omega)
        clear c47
        have c48 : 1 < ((rd_L1 t297 0).length : Int) := Classical.byContradiction fun c48 => by
         rw [if_neg c48] at H
         exact absurd H (by simp)
        rw [if_pos c48] at H
        have c48b0 : decide (1 < ((rd_L1 t297 0).length : Int)) = true := decide_eq_true c48
        have c48b1 : decide (1 < (rd_L1 t297 0).length) = true := decide_eq_true (by omega)
        clear c48
        have c49 : ¬ ((t313 != ((rd (rd_L1 t297 0) 1) == 1)) = true) := fun c49 => by
         rw [if_pos c49] at H
         exact absurd H (by simp)
        rw [if_neg c49] at H
        have c49b0 : (t313 != ((rd (rd_L1 t297 0) 1) == 1)) = false := by simpa using c49
        (try (have c49b1 : decide (t313 = ((rd (rd_L1 t297 0) 1) == 1)) = true := by simpa using c49))
        (try (have c49b2 : (t313 == ((rd (rd_L1 t297 0) 1) == 1)) = true := by simpa using c49))
        clear c49
        have c50 : ¬ (t305 = 0) := fun c50 => by
         rw [if_pos c50] at H
         exact absurd H (by simp)
        rw [if_neg c50] at H
        have c50b0 : (t305 == 0) = false := beq_eq_false_iff_ne.mpr c50
        have c50b1 : (t305 != 0) = true := bne_iff_ne.mpr c50
        have c51 : (Int.tmod t296 t305) = 0 := Classical.byContradiction fun c51 => by
         rw [if_neg c51] at H
         exact absurd H (by simp)
        rw [if_pos c51] at H
        have c51b0 : ((Int.tmod t296 t305) == 0) = true := beq_iff_eq.mpr c51
        have c51b1 : ((Int.tmod t296 t305) != 0) = false := bne_eq_false_iff_eq.mpr c51
        clear c51
        by_cases c52 : t310 = true
        ·subst c52
         have H1 : (if 0 < ((rd_L1 t297 0).length : Int) then (if t309 = (rd (rd_L1 t297 0) 0) then (if t309 = 0 then (none) else (laws_FnFactorsTold.j1 kj13 l1 t296 t297 t305 ((Int.tmod t296 t309) != 0))) else (none)) else (none)) = some r := by rw [if_pos rfl] at H; exact H
         clear H
         have H := H1
         clear H1
         have c53 : 0 < ((rd_L1 t297 0).length : Int) := Classical.byContradiction fun c53 => by
          rw [if_neg c53] at H
          exact absurd H (by simp)
         rw [if_pos c53] at H
         have c53b0 : decide (0 < ((rd_L1 t297 0).length : Int)) = true := decide_eq_true c53
         have c53b1 : decide (0 < (rd_L1 t297 0).length) = true := decide_eq_true (by omega)
         clear c53
         have c54 : t309 = (rd (rd_L1 t297 0) 0) := Classical.byContradiction fun c54 => by
          rw [if_neg c54] at H
          exact absurd H (by simp)
         rw [if_pos c54] at H
         have c54b0 : (t309 == (rd (rd_L1 t297 0) 0)) = true := beq_iff_eq.mpr c54
         have c54b1 : (t309 != (rd (rd_L1 t297 0) 0)) = false := bne_eq_false_iff_eq.mpr c54
         clear c54
         have c55 : ¬ (t309 = 0) := fun c55 => by
          rw [if_pos c55] at H
          exact absurd H (by simp)
         rw [if_neg c55] at H
         have c55b0 : (t309 == 0) = false := beq_eq_false_iff_ne.mpr c55
         have c55b1 : (t309 != 0) = true := bne_iff_ne.mpr c55
         have H' := Aside0.mk H
         clear H
         have p320 : 0 ≤ (0 : Int) := (by omega)
         have q320 : 0 < (t297.length : Int) := of_decide_eq_true (by first | (with_reducible assumption) | assumption)
         obtain ⟨ad320, A320_0, c320_0, e320, hx320_0, hl320_0, hi320_0⟩ := at_L1 (Kd.N_reads' HO_6.out).2.2 0 p320 q320
         cases e320
         obtain ⟨ce320, hce320, hMe320, hcc320⟩ := Kd.N_get HO_6.out [] 0 p320 (by first | exact q320 | exact of_decide_eq_true (by first | (with_reducible assumption) | assumption) | (have e_ := (Kd.N_reads' HO_6.out).1; omega))
         obtain ⟨ua320_0, uc320_0, rfl, ul320_0, ge320_0⟩ := Kd.FK_slice_open hMe320
         have hv320_0 := hcc320 0 _ rfl
         rw [Nat.add_zero, show ((Kd.slice 3 (Kd.int .i64))).sz = 1 from rfl, Nat.mul_one] at hv320_0
         replace hv320_0 := Option.some.inj (hv320_0.symm.trans hx320_0)
         injection hv320_0 with hva_ hvn_ hvc_
         rw [hva_] at ge320_0
         rw [hvc_] at ul320_0
         have HL320_0 := Aside0.mk (show Kd.V (Kd.int .i64) 3 _ w.heap.size _ _ (rd_L1 t297 0) from Kd.V_mk ul320_0 ge320_0)
         clear hva_ hvn_ hvc_ ge320_0 ul320_0
         clear hcc320 hce320
         have qi320 : (0 < t297.length) = True := eq_true (by omega)
         (try rw [show ((0 : Int)).toNat = 0 from rfl] at hx320_0)
         (try rw [Addr.add_zero'] at hx320_0)
         have HR320_0 := Aside0.mk hi320_0
         have HC320_0 := Aside0.mk hl320_0
         clear hi320_0 hl320_0
         replace p320 := eq_true p320
         replace q320 := eq_true q320
         have p321 : 0 ≤ (1 : Int) := (by omega)
         have q321 : 1 < ((rd_L1 t297 0).length : Int) := of_decide_eq_true (by first | (with_reducible assumption) | assumption)
         obtain ⟨ad321, e321, hx321_0⟩ := Kd.at_int (by repeat (first | (with_reducible exact HR320_0.out) | (with_reducible refine Kd.C_alloc ?_ _) | (with_reducible refine Kd.C_drewN ?_ _) | (with_reducible refine Kd.C_drew ?_) | exact HR320_0.out)) 1 p321 q321
         cases e321
         (try simp only [show (1 : Int).toNat = 1 from rfl, Nat.reduceMul, Nat.reduceEqDiff, Go.Addr.add, ↓reduceIte] at hx321_0)
         have qi321 : (1 < (rd_L1 t297 0).length) = True := eq_true (by omega)
         (try rw [show ((1 : Int)).toNat = 1 from rfl] at hx321_0)
         replace p321 := eq_true p321
         replace q321 := eq_true q321
         have p322 : 0 ≤ (0 : Int) := (by omega)
         have q322 : 0 < (t297.length : Int) := of_decide_eq_true (by first | (with_reducible assumption) | assumption)
         obtain ⟨ad322, A322_0, c322_0, e322, hx322_0, hl322_0, hi322_0⟩ := at_L1 (Kd.N_reads' HO_6.out).2.2 0 p322 q322
         obtain rfl : ad320 = ad322 := (by injection e322)
         obtain ⟨ce322, hce322, hMe322, hcc322⟩ := Kd.N_get HO_6.out [] 0 p322 (by first | exact q322 | exact of_decide_eq_true (by first | (with_reducible assumption) | assumption) | (have e_ := (Kd.N_reads' HO_6.out).1; omega))
         obtain ⟨ua322_0, uc322_0, rfl, ul322_0, ge322_0⟩ := Kd.FK_slice_open hMe322
         have hv322_0 := hcc322 0 _ rfl
         rw [Nat.add_zero, show ((Kd.slice 3 (Kd.int .i64))).sz = 1 from rfl, Nat.mul_one] at hv322_0
         replace hv322_0 := Option.some.inj (hv322_0.symm.trans hx322_0)
         injection hv322_0 with hva_ hvn_ hvc_
         rw [hva_] at ge322_0
         rw [hvc_] at ul322_0
         have HL322_0 := Aside0.mk (show Kd.V (Kd.int .i64) 3 _ w.heap.size _ _ (rd_L1 t297 0) from Kd.V_mk ul322_0 ge322_0)
         clear hva_ hvn_ hvc_ ge322_0 ul322_0
         clear hcc322 hce322
         have qi322 : (0 < t297.length) = True := eq_true (by omega)
         (try rw [show ((0 : Int)).toNat = 0 from rfl] at hx322_0)
         (try rw [Addr.add_zero'] at hx322_0)
         have HR322_0 := Aside0.mk hi322_0
         have HC322_0 := Aside0.mk hl322_0
         clear hi322_0 hl322_0
         replace p322 := eq_true p322
         replace q322 := eq_true q322
         have ea_ := Option.some.inj (hx320_0.symm.trans hx322_0)
         injection ea_ with ea_ en_ ec_
         subst ea_
         subst ec_
         clear en_
         have p323 : 0 ≤ (0 : Int) := (by omega)
         have q323 : 0 < ((rd_L1 t297 0).length : Int) := of_decide_eq_true (by first | (with_reducible assumption) | assumption)
         obtain ⟨ad323, e323, hx323_0⟩ := Kd.at_int (by repeat (first | (with_reducible exact HR322_0.out) | (with_reducible refine Kd.C_alloc ?_ _) | (with_reducible refine Kd.C_drewN ?_ _) | (with_reducible refine Kd.C_drew ?_) | exact HR322_0.out)) 0 p323 q323
         cases e323
         have qi323 : (0 < (rd_L1 t297 0).length) = True := eq_true (by omega)
         (try rw [show ((0 : Int)).toNat = 0 from rfl] at hx323_0)
         (try rw [Addr.add_zero'] at hx323_0)
         replace p323 := eq_true p323
         replace q323 := eq_true q323
         go_wp2
         repeat (go_quiet (fail); try go_wp2)
         go_meet
         case rel => exact ⟨_, (((Int.tmod t296 t309) != 0)), (by first | rfl | (simp; done) | (simp [*]; done)), H', ⟨by have := HJ13.out; first | omega | exact Nat.le_refl _⟩, ⟨by (with_reducible repeat (first | apply Kd.N_alloc | apply Kd.N_drewN | apply Kd.N_drew)); exact HO_6.out⟩, ⟨by repeat (first | (with_reducible first | exact HB.out | apply below_alloc | apply pw_below_drewN | apply below_drew1) | exact HB.out)⟩⟩
        ·replace c52 := Bool.eq_false_iff.mpr c52
         subst c52
         have H1 : (laws_FnFactorsTold.j1 kj13 l1 t296 t297 t305 false) = some r := by rw [if_neg (show ¬ (false = true) by decide)] at H; exact H
         clear H
         have H := H1
         clear H1
         have H' := Aside0.mk H
         clear H
         have p320 : 0 ≤ (0 : Int) := (by omega)
         have q320 : 0 < (t297.length : Int) := of_decide_eq_true (by first | (with_reducible assumption) | assumption)
         obtain ⟨ad320, A320_0, c320_0, e320, hx320_0, hl320_0, hi320_0⟩ := at_L1 (Kd.N_reads' HO_6.out).2.2 0 p320 q320
         cases e320
         obtain ⟨ce320, hce320, hMe320, hcc320⟩ := Kd.N_get HO_6.out [] 0 p320 (by first | exact q320 | exact of_decide_eq_true (by first | (with_reducible assumption) | assumption) | (have e_ := (Kd.N_reads' HO_6.out).1; omega))
         obtain ⟨ua320_0, uc320_0, rfl, ul320_0, ge320_0⟩ := Kd.FK_slice_open hMe320
         have hv320_0 := hcc320 0 _ rfl
         rw [Nat.add_zero, show ((Kd.slice 3 (Kd.int .i64))).sz = 1 from rfl, Nat.mul_one] at hv320_0
         replace hv320_0 := Option.some.inj (hv320_0.symm.trans hx320_0)
         injection hv320_0 with hva_ hvn_ hvc_
         rw [hva_] at ge320_0
         rw [hvc_] at ul320_0
         have HL320_0 := Aside0.mk (show Kd.V (Kd.int .i64) 3 _ w.heap.size _ _ (rd_L1 t297 0) from Kd.V_mk ul320_0 ge320_0)
         clear hva_ hvn_ hvc_ ge320_0 ul320_0
         clear hcc320 hce320
         have qi320 : (0 < t297.length) = True := eq_true (by omega)
         (try rw [show ((0 : Int)).toNat = 0 from rfl] at hx320_0)
         (try rw [Addr.add_zero'] at hx320_0)
         have HR320_0 := Aside0.mk hi320_0
         have HC320_0 := Aside0.mk hl320_0
         clear hi320_0 hl320_0
         replace p320 := eq_true p320
         replace q320 := eq_true q320
         have p321 : 0 ≤ (1 : Int) := (by omega)
         have q321 : 1 < ((rd_L1 t297 0).length : Int) := of_decide_eq_true (by first | (with_reducible assumption) | assumption)
         obtain ⟨ad321, e321, hx321_0⟩ := Kd.at_int (by repeat (first | (with_reducible exact HR320_0.out) | (with_reducible refine Kd.C_alloc ?_ _) | (with_reducible refine Kd.C_drewN ?_ _) | (with_reducible refine Kd.C_drew ?_) | exact HR320_0.out)) 1 p321 q321
         cases e321
         (try simp only [show (1 : Int).toNat = 1 from rfl, Nat.reduceMul, Nat.reduceEqDiff, Go.Addr.add, ↓reduceIte] at hx321_0)
         have qi321 : (1 < (rd_L1 t297 0).length) = True := eq_true (by omega)
         (try rw [show ((1 : Int)).toNat = 1 from rfl] at hx321_0)
         replace p321 := eq_true p321
         replace q321 := eq_true q321
         go_wp2
         repeat (go_quiet (fail); try go_wp2)
         go_meet
         case rel => exact ⟨_, (false), (by first | rfl | (simp; done) | (simp [*]; done)), H', ⟨by have := HJ13.out; first | omega | exact Nat.le_refl _⟩, ⟨by (with_reducible repeat (first | apply Kd.N_alloc | apply Kd.N_drewN | apply Kd.N_drew)); exact HO_6.out⟩, ⟨by repeat (first | (with_reducible first | exact HB.out | apply below_alloc | apply pw_below_drewN | apply below_drew1) | exact HB.out)⟩⟩
       ·as_aux_lemma =>
        rw [if_neg c46] at H
        have c46b0 : ((t297.length : Int) == 1) = false := beq_eq_false_iff_ne.mpr c46
        have c46b1 : ((t297.length : Int) != 1) = true := bne_iff_ne.mpr c46
        have c56 : ¬ ((t313 != false) = true) := fun c56 => by
         rw [if_pos c56] at H
         exact absurd H (by simp)
        rw [if_neg c56] at H
        have hT_ : t313 = false := by simpa using c56
        clear c56
        subst hT_
        have c57 : ¬ (t305 = 0) := fun c57 => by
         rw [if_pos c57] at H
         exact absurd H (by simp)
        rw [if_neg c57] at H
        have c57b0 : (t305 == 0) = false := beq_eq_false_iff_ne.mpr c57
        have c57b1 : (t305 != 0) = true := bne_iff_ne.mpr c57
        have c58 : (Int.tmod t296 t305) = 0 := Classical.byContradiction fun c58 => by
         rw [if_neg c58] at H
         exact absurd H (by simp)
        rw [if_pos c58] at H
        have c58b0 : ((Int.tmod t296 t305) == 0) = true := beq_iff_eq.mpr c58
        have c58b1 : ((Int.tmod t296 t305) != 0) = false := bne_eq_false_iff_eq.mpr c58
        clear c58
        by_cases c59 : t310 = true
        ·subst c59
         have H1 : (if 0 < (t297.length : Int) then (if 0 < ((rd_L1 t297 0).length : Int) then (if t309 = (rd (rd_L1 t297 0) 0) then (if t309 = 0 then (none) else (laws_FnFactorsTold.j1 kj13 l1 t296 t297 t305 ((Int.tmod t296 t309) != 0))) else (none)) else (none)) else (none)) = some r := by rw [if_pos rfl] at H; exact H
         clear H
         have H := H1
         clear H1
         have c60 : 0 < (t297.length : Int) := Classical.byContradiction fun c60 => by
          rw [if_neg c60] at H
          exact absurd H (by simp)
         rw [if_pos c60] at H
         have c60b0 : decide (0 < (t297.length : Int)) = true := decide_eq_true c60
         have c60b1 : decide (0 < t297.length) = true := decide_eq_true (by omega)
         clear c60
         have c61 : 0 < ((rd_L1 t297 0).length : Int) := Classical.byContradiction fun c61 => by
          rw [if_neg c61] at H
          exact absurd H (by simp)
         rw [if_pos c61] at H
         have c61b0 : decide (0 < ((rd_L1 t297 0).length : Int)) = true := decide_eq_true c61
         have c61b1 : decide (0 < (rd_L1 t297 0).length) = true := decide_eq_true (by omega)
         clear c61
         have c62 : t309 = (rd (rd_L1 t297 0) 0) := Classical.byContradiction fun c62 => by
          rw [if_neg c62] at H
          exact absurd H (by simp)
         rw [if_pos c62] at H
         have c62b0 : (t309 == (rd (rd_L1 t297 0) 0)) = true := beq_iff_eq.mpr c62
         have c62b1 : (t309 != (rd (rd_L1 t297 0) 0)) = false := bne_eq_false_iff_eq.mpr c62
         clear c62
         have c63 : ¬ (t309 = 0) := fun c63 => by
          rw [if_pos c63] at H
          exact absurd H (by simp)
         rw [if_neg c63] at H
         have c63b0 : (t309 == 0) = false := beq_eq_false_iff_ne.mpr c63
         have c63b1 : (t309 != 0) = true := bne_iff_ne.mpr c63
         have H' := Aside0.mk H
         clear H
         have p324 : 0 ≤ (0 : Int) := (by omega)
         have q324 : 0 < (t297.length : Int) := of_decide_eq_true (by first | (with_reducible assumption) | assumption)
         obtain ⟨ad324, A324_0, c324_0, e324, hx324_0, hl324_0, hi324_0⟩ := at_L1 (Kd.N_reads' HO_6.out).2.2 0 p324 q324
         cases e324
         obtain ⟨ce324, hce324, hMe324, hcc324⟩ := Kd.N_get HO_6.out [] 0 p324 (by first | exact q324 | exact of_decide_eq_true (by first | (with_reducible assumption) | assumption) | (have e_ := (Kd.N_reads' HO_6.out).1; omega))
         obtain ⟨ua324_0, uc324_0, rfl, ul324_0, ge324_0⟩ := Kd.FK_slice_open hMe324
         have hv324_0 := hcc324 0 _ rfl
         rw [Nat.add_zero, show ((Kd.slice 3 (Kd.int .i64))).sz = 1 from rfl, Nat.mul_one] at hv324_0
         replace hv324_0 := Option.some.inj (hv324_0.symm.trans hx324_0)
         injection hv324_0 with hva_ hvn_ hvc_
         rw [hva_] at ge324_0
         rw [hvc_] at ul324_0
         have HL324_0 := Aside0.mk (show Kd.V (Kd.int .i64) 3 _ w.heap.size _ _ (rd_L1 t297 0) from Kd.V_mk ul324_0 ge324_0)
         clear hva_ hvn_ hvc_ ge324_0 ul324_0
         clear hcc324 hce324
         have qi324 : (0 < t297.length) = True := eq_true (by omega)
         (try rw [show ((0 : Int)).toNat = 0 from rfl] at hx324_0)
         (try rw [Addr.add_zero'] at hx324_0)
         have HR324_0 := Aside0.mk hi324_0
         have HC324_0 := Aside0.mk hl324_0
         clear hi324_0 hl324_0
         replace p324 := eq_true p324
         replace q324 := eq_true q324
         have p325 : 0 ≤ (0 : Int) := (by omega)
         have q325 : 0 < ((rd_L1 t297 0).length : Int) := of_decide_eq_true (by first | (with_reducible assumption) | assumption)
         obtain ⟨ad325, e325, hx325_0⟩ := Kd.at_int (by repeat (first | (with_reducible exact HR324_0.out) | (with_reducible refine Kd.C_alloc ?_ _) | (with_reducible refine Kd.C_drewN ?_ _) | (with_reducible refine Kd.C_drew ?_) | exact HR324_0.out)) 0 p325 q325
         cases e325
         have qi325 : (0 < (rd_L1 t297 0).length) = True := eq_true (by omega)
         (try rw [show ((0 : Int)).toNat = 0 from rfl] at hx325_0)
         (try rw [Addr.add_zero'] at hx325_0)
         replace p325 := eq_true p325
         replace q325 := eq_true q325
         go_wp2
         repeat (go_quiet (fail); try go_wp2)
         go_meet
         case rel => exact ⟨_, (((Int.tmod t296 t309) != 0)), (by first | rfl | (simp; done) | (simp [*]; done)), H', ⟨by have := HJ13.out; first | omega | exact Nat.le_refl _⟩, ⟨by (with_reducible repeat (first | apply Kd.N_alloc | apply Kd.N_drewN | apply Kd.N_drew)); exact HO_6.out⟩, ⟨by repeat (first | (with_reducible first | exact HB.out | apply below_alloc | apply pw_below_drewN | apply below_drew1) | exact HB.out)⟩⟩
        ·replace c59 := Bool.eq_false_iff.mpr c59
         subst c59
         have H1 : (laws_FnFactorsTold.j1 kj13 l1 t296 t297 t305 false) = some r := by rw [if_neg (show ¬ (false = true) by decide)] at H; exact H
         clear H
         have H := H1
         clear H1
         have H' := Aside0.mk H
         clear H
         go_wp2
         repeat (go_quiet (fail); try go_wp2)
         go_meet
         case rel => exact ⟨_, (false), (by first | rfl | (simp; done) | (simp [*]; done)), H', ⟨by have := HJ13.out; first | omega | exact Nat.le_refl _⟩, ⟨by (with_reducible repeat (first | apply Kd.N_alloc | apply Kd.N_drewN | apply Kd.N_drew)); exact HO_6.out⟩, ⟨by repeat (first | (with_reducible first | exact HB.out | apply below_alloc | apply pw_below_drewN | apply below_drew1) | exact HB.out)⟩⟩
      case rest =>
       as_aux_lemma =>
       clear HC41
       try clear c1
       try clear c2
       try clear p2
       try clear c3
       try clear p3
       try clear q3
       try clear hx3
       try clear qi3
       try clear c4
       try clear c5
       try clear c6
       try clear c13
       try clear c20
       try clear c20b0
       try clear c20b1
       try clear c20b2
       try clear c22
       try clear c23
       try clear c23b0
       try clear c23b1
       try clear c23b2
       try clear c24
       try clear c24b0
       try clear c24b1
       try clear c25
       try clear c25b0
       try clear c25b1
       try clear c25b2
       try clear c26
       try clear c26b0
       try clear c26b1
       try clear c27
       try clear c27b0
       try clear c27b1
       try clear c27b2
       try clear c28
       try clear c28b0
       try clear c28b1
       try clear c28b2
       try clear c29
       try clear c29b0
       try clear c29b1
       try clear c29b2
       try clear c30
       try clear c31
       try clear c31b0
       try clear c31b1
       try clear c31b2
       try clear c32
       try clear p32
       try clear q32
       try clear hx32
       try clear qi32
       try clear c34
       try clear c34b0
       try clear c34b1
       try clear c34b2
       try clear c37
       try clear c39
       try clear c44
       try clear c45
       try clear c45b0
       try clear c45b1
       try clear c46
       try clear c46b0
       try clear c46b1
       try clear c47
       try clear c47b0
       try clear c47b1
       try clear c48
       try clear c48b0
       try clear c48b1
       try clear c49
       try clear c49b0
       try clear c49b1
       try clear c49b2
       try clear c50
       try clear c50b0
       try clear c50b1
       try clear c51
       try clear c51b0
       try clear c51b1
       try clear c52
       try clear c53
       try clear c53b0
       try clear c53b1
       try clear c54
       try clear c54b0
       try clear c54b1
       try clear c55
       try clear c55b0
       try clear c55b1
       try clear c56
       try clear c56b0
       try clear c56b1
       try clear c56b2
       try clear c57
       try clear c57b0
       try clear c57b1
       try clear c58
       try clear c58b0
       try clear c58b1
       try clear c59
       try clear c60
       try clear c60b0
       try clear c60b1
       try clear c61
       try clear c61b0
       try clear c61b1
       try clear c62
       try clear c62b0
       try clear c62b1
       try clear c63
       try clear c63b0
       try clear c63b1
       try clear hx320_0
       try clear hx321_0
       try clear hx322_0
       try clear hx323_0
       try clear hx324_0
       try clear hx325_0
       try clear p2
       try clear p320
       try clear p321
       try clear p322
       try clear p323
       try clear p324
       try clear p325
       try clear q320
       try clear q321
       try clear q322
       try clear q323
       try clear q324
       try clear q325
       obtain ⟨kq, x200_40, rfl, HA, HJ40, HO_6, HB⟩ := hcut
       cases kq with
       | zero => exact absurd HA.out (by simp [laws_FnFactorsTold.j1])
       | succ kj40 =>
        have H := HA.out
        clear HA
        simp only [laws_FnFactorsTold.j1] at H
        have c64 : ¬ (x200_40 = true) := fun c64 => by
         subst c64
         have H1 : (none) = some r := by rw [if_pos rfl] at H; exact H
         clear H
         have H := H1
         clear H1
         exact absurd H (by simp)
        replace c64 := Bool.eq_false_iff.mpr c64
        subst c64
        have H1 : (laws_FnFactorsTold.l0 kj40 l1 t296 t297 t305 1 t297 (t297.length : Int) 0) = some r := by rw [if_neg (show ¬ (false = true) by decide)] at H; exact H
        clear H
        have H := H1
        clear H1
        have H' := Aside0.mk H
        clear H
        go_wp2
        repeat (go_quiet (fail); try go_wp2)
        go_loopg [24, 203] kj40 (fun kq v24 v203 w' => ∃ (x24_3 : Int) (x203_3 : Int), v24 = .int .i64 x24_3 ∧ v203 = .int .i64 x203_3 ∧ Aside0 (laws_FnFactorsTold.l0 kq l1 t296 t297 t305 x24_3 t297 (t297.length : Int) x203_3 = some r) ∧ Aside0 (kq ≤ kj40) ∧ Aside0 (Kd.N (Kd.slice 3 (Kd.int .i64)) 28 w' w.heap.size (fun _ => True) (.slice Ao42 t297.length co42) t297) ∧ Aside0 (Kd.N (Kd.slice 3 (Kd.int .i64)) 28 w' w.heap.size (fun _ => True) (.slice Ao42 t297.length co42) t297) ∧ Aside0 (Below w.heap.size w w'))
        case atStart => exact ⟨(1), (0), (by first | rfl | (simp; done) | (simp [*]; done)), (by first | rfl | (simp; done) | (simp [*]; done)), H', ⟨Nat.le_refl _⟩, ⟨by (with_reducible repeat (first | apply Kd.N_alloc | apply Kd.N_drewN | apply Kd.N_drew)); exact HO_6.out⟩, ⟨by (with_reducible repeat (first | apply Kd.N_alloc | apply Kd.N_drewN | apply Kd.N_drew)); exact HO_6.out⟩, ⟨by repeat (first | (with_reducible first | exact HB.out | apply below_alloc | apply pw_below_drewN | apply below_drew1) | exact HB.out)⟩⟩
        case round =>
         as_aux_lemma =>
         clear H'
         try clear c1
         try clear c2
         try clear p2
         try clear c3
         try clear p3
         try clear q3
         try clear hx3
         try clear qi3
         try clear c4
         try clear c5
         try clear c6
         try clear c13
         try clear c20
         try clear c20b0
         try clear c20b1
         try clear c20b2
         try clear c22
         try clear c23
         try clear c23b0
         try clear c23b1
         try clear c23b2
         try clear c24
         try clear c24b0
         try clear c24b1
         try clear c25
         try clear c25b0
         try clear c25b1
         try clear c25b2
         try clear c26
         try clear c26b0
         try clear c26b1
         try clear c27
         try clear c27b0
         try clear c27b1
         try clear c27b2
         try clear c28
         try clear c28b0
         try clear c28b1
         try clear c28b2
         try clear c29
         try clear c29b0
         try clear c29b1
         try clear c29b2
         try clear c30
         try clear c31
         try clear c31b0
         try clear c31b1
         try clear c31b2
         try clear c32
         try clear p32
         try clear q32
         try clear hx32
         try clear qi32
         try clear c34
         try clear c34b0
         try clear c34b1
         try clear c34b2
         try clear c37
         try clear c39
         try clear c44
         try clear c45
         try clear c45b0
         try clear c45b1
         try clear c46
         try clear c46b0
         try clear c46b1
         try clear c47
         try clear c47b0
         try clear c47b1
         try clear c48
         try clear c48b0
         try clear c48b1
         try clear c49
         try clear c49b0
         try clear c49b1
         try clear c49b2
         try clear c50
         try clear c50b0
         try clear c50b1
         try clear c51
         try clear c51b0
         try clear c51b1
         try clear c52
         try clear c53
         try clear c53b0
         try clear c53b1
         try clear c54
         try clear c54b0
         try clear c54b1
         try clear c55
         try clear c55b0
         try clear c55b1
         try clear c56
         try clear c56b0
         try clear c56b1
         try clear c56b2
         try clear c57
         try clear c57b0
         try clear c57b1
         try clear c58
         try clear c58b0
         try clear c58b1
         try clear c59
         try clear c60
         try clear c60b0
         try clear c60b1
         try clear c61
         try clear c61b0
         try clear c61b1
         try clear c62
         try clear c62b0
         try clear c62b1
         try clear c63
         try clear c63b0
         try clear c63b1
         try clear c64
         try clear hx320_0
         try clear hx321_0
         try clear hx322_0
         try clear hx323_0
         try clear hx324_0
         try clear hx325_0
         try clear p2
         try clear p3
         try clear p32
         try clear p320
         try clear p321
         try clear p322
         try clear p323
         try clear p324
         try clear p325
         try clear q3
         try clear q32
         try clear q320
         try clear q321
         try clear q322
         try clear q323
         try clear q324
         try clear q325
         obtain ⟨x24_3, x203_3, rfl, rfl, HA, HK3, HO_6, HO_201, HB⟩ := hrel
         cases gk with
         | zero => exact absurd HA.out (by simp [laws_FnFactorsTold.l0])
         | succ k3 =>
          have H := HA.out
          clear HA
          simp only [laws_FnFactorsTold.l0] at H
          by_cases c65 : x203_3 < (t297.length : Int)
          ·as_aux_lemma =>
           rw [if_pos c65] at H
           have c65b0 : decide (x203_3 < (t297.length : Int)) = true := decide_eq_true c65
           clear c65
           have c66 : 0 ≤ x203_3 := Classical.byContradiction fun c66 => by
            rw [if_neg c66] at H
            exact absurd H (by simp)
           rw [if_pos c66] at H
           have c66b0 : decide (0 ≤ x203_3) = true := decide_eq_true c66
           clear c66
           have c67 : x203_3 < (t297.length : Int) := Classical.byContradiction fun c67 => by
            rw [if_neg c67] at H
            exact absurd H (by simp)
           rw [if_pos c67] at H
           have c67b0 : decide (x203_3 < (t297.length : Int)) = true := decide_eq_true c67
           clear c67
           have c68 : 0 < ((rd_L1 t297 x203_3).length : Int) := Classical.byContradiction fun c68 => by
            rw [if_neg c68] at H
            exact absurd H (by simp)
           rw [if_pos c68] at H
           have c68b0 : decide (0 < ((rd_L1 t297 x203_3).length : Int)) = true := decide_eq_true c68
           have c68b1 : decide (0 < (rd_L1 t297 x203_3).length) = true := decide_eq_true (by omega)
           clear c68
           replace H := Option.bind_eq_some_iff.mp H
           obtain ⟨⟨t328, t329⟩, A690, H⟩ := H
           replace H : ((impl_IsSmooth.f k3 t296 (rd (rd_L1 t297 x203_3) 0)).bind fun bt331 => (if ((rd_L1 t297 x203_3).length : Int) = 2 then (if t329 = true then (if t328 = true then (if 1 < ((rd_L1 t297 x203_3).length : Int) then (if (rd (rd_L1 t297 x203_3) 1) < 1 then (none) else (if x203_3 > 0 then (if 0 ≤ (wrap64 (x203_3 - 1)) then (if (wrap64 (x203_3 - 1)) < (t297.length : Int) then (if 0 < ((rd_L1 t297 (wrap64 (x203_3 - 1))).length : Int) then (if (rd (rd_L1 t297 (wrap64 (x203_3 - 1))) 0) ≥ (rd (rd_L1 t297 x203_3) 0) then (none) else (if bt331.2 = true then (if (bt331.1 != (x203_3 == (wrap64 ((t297.length : Int) - 1)))) = true then (none) else (laws_FnFactorsTold.l0 k3 l1 t296 t297 t305 (wrap64 (x24_3 * (rd (rd_L1 t297 x203_3) 0))) t297 (t297.length : Int) (wrap64 (x203_3 + 1)))) else (none))) else (none)) else (none)) else (none)) else (if bt331.2 = true then (if (bt331.1 != (x203_3 == (wrap64 ((t297.length : Int) - 1)))) = true then (none) else (laws_FnFactorsTold.l0 k3 l1 t296 t297 t305 (wrap64 (x24_3 * (rd (rd_L1 t297 x203_3) 0))) t297 (t297.length : Int) (wrap64 (x203_3 + 1)))) else (none)))) else (none)) else (none)) else (none)) else (none))) = some r := H
           have A69 := Aside0.mk A690
           clear A690
           replace H := Option.bind_eq_some_iff.mp H
           obtain ⟨⟨t331, t332⟩, A700, H⟩ := H
           replace H : (if ((rd_L1 t297 x203_3).length : Int) = 2 then (if t329 = true then (if t328 = true then (if 1 < ((rd_L1 t297 x203_3).length : Int) then (if (rd (rd_L1 t297 x203_3) 1) < 1 then (none) else (if x203_3 > 0 then (if 0 ≤ (wrap64 (x203_3 - 1)) then (if (wrap64 (x203_3 - 1)) < (t297.length : Int) then (if 0 < ((rd_L1 t297 (wrap64 (x203_3 - 1))).length : Int) then (if (rd (rd_L1 t297 (wrap64 (x203_3 - 1))) 0) ≥ (rd (rd_L1 t297 x203_3) 0) then (none) else (if t332 = true then (if (t331 != (x203_3 == (wrap64 ((t297.length : Int) - 1)))) = true then (none) else (laws_FnFactorsTold.l0 k3 l1 t296 t297 t305 (wrap64 (x24_3 * (rd (rd_L1 t297 x203_3) 0))) t297 (t297.length : Int) (wrap64 (x203_3 + 1)))) else (none))) else (none)) else (none)) else (none)) else (if t332 = true then (if (t331 != (x203_3 == (wrap64 ((t297.length : Int) - 1)))) = true then (none) else (laws_FnFactorsTold.l0 k3 l1 t296 t297 t305 (wrap64 (x24_3 * (rd (rd_L1 t297 x203_3) 0))) t297 (t297.length : Int) (wrap64 (x203_3 + 1)))) else (none)))) else (none)) else (none)) else (none)) else (none)) = some r := H
           have A70 := Aside0.mk A700
           clear A700
           have c71 : ((rd_L1 t297 x203_3).length : Int) = 2 := Classical.byContradiction fun c71 => by
            rw [if_neg c71] at H
            exact absurd H (by simp)
           rw [if_pos c71] at H
           have c71b0 : (((rd_L1 t297 x203_3).length : Int) == 2) = true := beq_iff_eq.mpr c71
           have c71b1 : (((rd_L1 t297 x203_3).length : Int) != 2) = false := bne_eq_false_iff_eq.mpr c71
           clear c71
           have c72 : t329 = true := Classical.byContradiction fun c72 => by
            replace c72 := Bool.eq_false_iff.mpr c72
            subst c72
            have H1 : (none) = some r := by rw [if_neg (show ¬ (false = true) by decide)] at H; exact H
            clear H
            have H := H1
            clear H1
            exact absurd H (by simp)
           subst c72
           have H1 : (if t328 = true then (if 1 < ((rd_L1 t297 x203_3).length : Int) then (if (rd (rd_L1 t297 x203_3) 1) < 1 then (none) else (if x203_3 > 0 then (if 0 ≤ (wrap64 (x203_3 - 1)) then (if (wrap64 (x203_3 - 1)) < (t297.length : Int) then (if 0 < ((rd_L1 t297 (wrap64 (x203_3 - 1))).length : Int) then (if (rd (rd_L1 t297 (wrap64 (x203_3 - 1))) 0) ≥ (rd (rd_L1 t297 x203_3) 0) then (none) else (if t332 = true then (if (t331 != (x203_3 == (wrap64 ((t297.length : Int) - 1)))) = true then (none) else (laws_FnFactorsTold.l0 k3 l1 t296 t297 t305 (wrap64 (x24_3 * (rd (rd_L1 t297 x203_3) 0))) t297 (t297.length : Int) (wrap64 (x203_3 + 1)))) else (none))) else (none)) else (none)) else (none)) else (if t332 = true then (if (t331 != (x203_3 == (wrap64 ((t297.length : Int) - 1)))) = true then (none) else (laws_FnFactorsTold.l0 k3 l1 t296 t297 t305 (wrap64 (x24_3 * (rd (rd_L1 t297 x203_3) 0))) t297 (t297.length : Int) (wrap64 (x203_3 + 1)))) else (none)))) else (none)) else (none)) = some r := by rw [if_pos rfl] at H; exact H
           clear H
           have H := H1
           clear H1
           have c73 : t328 = true := Classical.byContradiction fun c73 => by
            replace c73 := Bool.eq_false_iff.mpr c73
            subst c73
            have H1 : (none) = some r := by rw [if_neg (show ¬ (false = true) by decide)] at H; exact H
            clear H
            have H := H1
            clear H1
            exact absurd H (by simp)
           subst c73
           have H1 : (if 1 < ((rd_L1 t297 x203_3).length : Int) then (if (rd (rd_L1 t297 x203_3) 1) < 1 then (none) else (if x203_3 > 0 then (if 0 ≤ (wrap64 (x203_3 - 1)) then (if (wrap64 (x203_3 - 1)) < (t297.length : Int) then (if 0 < ((rd_L1 t297 (wrap64 (x203_3 - 1))).length : Int) then (if (rd (rd_L1 t297 (wrap64 (x203_3 - 1))) 0) ≥ (rd (rd_L1 t297 x203_3) 0) then (none) else (if t332 = true then (if (t331 != (x203_3 == (wrap64 ((t297.length : Int) - 1)))) = true then (none) else (laws_FnFactorsTold.l0 k3 l1 t296 t297 t305 (wrap64 (x24_3 * (rd (rd_L1 t297 x203_3) 0))) t297 (t297.length : Int) (wrap64 (x203_3 + 1)))) else (none))) else (none)) else (none)) else (none)) else (if t332 = true then (if (t331 != (x203_3 == (wrap64 ((t297.length : Int) - 1)))) = true then (none) else (laws_FnFactorsTold.l0 k3 l1 t296 t297 t305 (wrap64 (x24_3 * (rd (rd_L1 t297 x203_3) 0))) t297 (t297.length : Int) (wrap64 (x203_3 + 1)))) else (none)))) else (none)) = some r := by rw [if_pos rfl] at H; exact H
           clear H
           have H := H1
           clear H1
           have c74 : 1 < ((rd_L1 t297 x203_3).length : Int) := Classical.byContradiction fun c74 => by
            rw [if_neg c74] at H
            exact absurd H (by simp)
           rw [if_pos c74] at H
           have c74b0 : decide (1 < ((rd_L1 t297 x203_3).length : Int)) = true := decide_eq_true c74
           have c74b1 : decide (1 < (rd_L1 t297 x203_3).length) = true := decide_eq_true (by omega)
           clear c74
           have c75 : ¬ ((rd (rd_L1 t297 x203_3) 1) < 1) := fun c75 => by
            rw [if_pos c75] at H
            exact absurd H (by simp)
           rw [if_neg c75] at H
           have c75b0 : decide ((rd (rd_L1 t297 x203_3) 1) < 1) = false := decide_eq_false c75
           clear c75
           by_cases c76 : x203_3 > 0
           ·as_aux_lemma =>
            rw [if_pos c76] at H
            have c76b0 : decide (0 < x203_3) = true := decide_eq_true c76
            clear c76
            obtain ⟨ji77, hji77⟩ : ∃ j_ : Int, (wrap64 (x203_3 - 1)) = j_ := ⟨_, rfl⟩
            replace H : (if 0 ≤ (ji77) then (if (ji77) < (t297.length : Int) then (if 0 < ((rd_L1 t297 (ji77)).length : Int) then (if (rd (rd_L1 t297 (ji77)) 0) ≥ (rd (rd_L1 t297 x203_3) 0) then (none) else (if t332 = true then (if (t331 != (x203_3 == (wrap64 ((t297.length : Int) - 1)))) = true then (none) else (laws_FnFactorsTold.l0 k3 l1 t296 t297 t305 (wrap64 (x24_3 * (rd (rd_L1 t297 x203_3) 0))) t297 (t297.length : Int) (wrap64 (x203_3 + 1)))) else (none))) else (none)) else (none)) else (none)) = some r := by first | (rw [hji77] at H; exact H) | (simp only [hji77] at H ⊢; exact H)
            (try rw [hji77] at A69)
            (try rw [hji77] at A70)
            have hji77w : (IntKind.i64.wrap (x203_3 - 1)) = ji77 := (i64_w _).trans hji77
            have c78 : 0 ≤ (ji77) := Classical.byContradiction fun c78 => by
             rw [if_neg c78] at H
             exact absurd H (by simp)
            rw [if_pos c78] at H
            have c78b0 : decide (0 ≤ (ji77)) = true := decide_eq_true c78
            clear c78
            have c79 : (ji77) < (t297.length : Int) := Classical.byContradiction fun c79 => by
             rw [if_neg c79] at H
             exact absurd H (by simp)
            rw [if_pos c79] at H
            have c79b0 : decide ((ji77) < (t297.length : Int)) = true := decide_eq_true c79
            clear c79
            have c80 : 0 < ((rd_L1 t297 (ji77)).length : Int) := Classical.byContradiction fun c80 => by
             rw [if_neg c80] at H
             exact absurd H (by simp)
            rw [if_pos c80] at H
            have c80b0 : decide (0 < ((rd_L1 t297 (ji77)).length : Int)) = true := decide_eq_true c80
            have c80b1 : decide (0 < (rd_L1 t297 (ji77)).length) = true := decide_eq_true (by omega)
            clear c80
            have c81 : ¬ ((rd (rd_L1 t297 (ji77)) 0) ≥ (rd (rd_L1 t297 x203_3) 0)) := fun c81 => by
             rw [if_pos c81] at H
             exact absurd H (by simp)
            rw [if_neg c81] at H
            have c81b0 : decide ((rd (rd_L1 t297 x203_3) 0) ≤ (rd (rd_L1 t297 (ji77)) 0)) = false := decide_eq_false c81
            clear c81
            have c82 : t332 = true := Classical.byContradiction fun c82 => by
             replace c82 := Bool.eq_false_iff.mpr c82
             subst c82
             have H1 : (none) = some r := by rw [if_neg (show ¬ (false = true) by decide)] at H; exact H
             clear H
             have H := H1
             clear H1
             exact absurd H (by simp)
            subst c82
            have H1 : (if (t331 != (x203_3 == (wrap64 ((t297.length : Int) - 1)))) = true then (none) else (laws_FnFactorsTold.l0 k3 l1 t296 t297 t305 (wrap64 (x24_3 * (rd (rd_L1 t297 x203_3) 0))) t297 (t297.length : Int) (wrap64 (x203_3 + 1)))) = some r := by rw [if_pos rfl] at H; exact H
            clear H
            have H := H1
            clear H1
            have c83 : ¬ ((t331 != (x203_3 == (wrap64 ((t297.length : Int) - 1)))) = true) := fun c83 => by
             rw [if_pos c83] at H
             exact absurd H (by simp)
            rw [if_neg c83] at H
            have c83b0 : (t331 != (x203_3 == (wrap64 ((t297.length : Int) - 1)))) = false := by simpa using c83
            (try (have c83b1 : decide (t331 = (x203_3 == (wrap64 ((t297.length : Int) - 1)))) = true := by simpa using c83))
            (try (have c83b2 : (t331 == (x203_3 == (wrap64 ((t297.length : Int) - 1)))) = true := by simpa using c83))
            clear c83
            have H' := Aside0.mk H
            clear H
            have p326 : 0 ≤ (x203_3 : Int) := of_decide_eq_true (by first | (with_reducible assumption) | assumption)
            have q326 : x203_3 < (t297.length : Int) := of_decide_eq_true (by first | (with_reducible assumption) | assumption)
            obtain ⟨ad326, A326_0, c326_0, e326, hx326_0, hl326_0, hi326_0⟩ := at_L1 (Kd.N_reads' HO_201.out).2.2 x203_3 p326 q326
            cases e326
            obtain ⟨ce326, hce326, hMe326, hcc326⟩ := Kd.N_get HO_201.out [] x203_3 p326 (by first | exact q326 | exact of_decide_eq_true (by first | (with_reducible assumption) | assumption) | (have e_ := (Kd.N_reads' HO_201.out).1; omega))
            obtain ⟨ua326_0, uc326_0, rfl, ul326_0, ge326_0⟩ := Kd.FK_slice_open hMe326
            have hv326_0 := hcc326 0 _ rfl
            rw [Nat.add_zero, show ((Kd.slice 3 (Kd.int .i64))).sz = 1 from rfl, Nat.mul_one] at hv326_0
            replace hv326_0 := Option.some.inj (hv326_0.symm.trans hx326_0)
            injection hv326_0 with hva_ hvn_ hvc_
            rw [hva_] at ge326_0
            rw [hvc_] at ul326_0
            have HL326_0 := Aside0.mk (show Kd.V (Kd.int .i64) 3 _ w.heap.size _ _ (rd_L1 t297 x203_3) from Kd.V_mk ul326_0 ge326_0)
            clear hva_ hvn_ hvc_ ge326_0 ul326_0
            clear hcc326 hce326
            have HR326_0 := Aside0.mk hi326_0
            have HC326_0 := Aside0.mk hl326_0
            clear hi326_0 hl326_0
            replace p326 := eq_true p326
            replace q326 := eq_true q326
            have p327 : 0 ≤ (0 : Int) := (by omega)
            have q327 : 0 < ((rd_L1 t297 x203_3).length : Int) := of_decide_eq_true (by first | (with_reducible assumption) | assumption)
            obtain ⟨ad327, e327, hx327_0⟩ := Kd.at_int (by repeat (first | (with_reducible exact HR326_0.out) | (with_reducible refine Kd.C_alloc ?_ _) | (with_reducible refine Kd.C_drewN ?_ _) | (with_reducible refine Kd.C_drew ?_) | exact HR326_0.out)) 0 p327 q327
            cases e327
            have qi327 : (0 < (rd_L1 t297 x203_3).length) = True := eq_true (by omega)
            (try rw [show ((0 : Int)).toNat = 0 from rfl] at hx327_0)
            (try rw [Addr.add_zero'] at hx327_0)
            replace p327 := eq_true p327
            replace q327 := eq_true q327
            as_aux_lemma =>
            go_wp2_with (first | (go_at_call 48; (with_reducible refine (impl_IsPrime.calls k3 (rd (rd_L1 t297 x203_3) 0) true true _ A69.out).mono ?_); rintro e w' ⟨rfl, ⟨nd, rfl⟩⟩; (try first | exact ⟨rfl, _, World.drewN_drewN _ _ _⟩ | exact ⟨rfl, _, Eq.trans (World.drewN_drewN _ _ _) (congrArg (World.drewN _) (Nat.add_assoc _ _ _))⟩); have p330 : 0 ≤ (0 : Int) := (by omega); have q330 : 0 < ((rd_L1 t297 x203_3).length : Int) := of_decide_eq_true (by first | (with_reducible assumption) | assumption); obtain ⟨ad330, e330, hx330_0⟩ := Kd.at_int (by repeat (first | (with_reducible exact HR326_0.out) | (with_reducible refine Kd.C_alloc ?_ _) | (with_reducible refine Kd.C_drewN ?_ _) | (with_reducible refine Kd.C_drew ?_) | exact HR326_0.out)) 0 p330 q330; obtain rfl : ad327 = ad330 := (by injection e330); have qi330 : (0 < (rd_L1 t297 x203_3).length) = True := eq_true (by omega); (try rw [show ((0 : Int)).toNat = 0 from rfl] at hx330_0); (try rw [Addr.add_zero'] at hx330_0); replace p330 := eq_true p330; replace q330 := eq_true q330))
            as_aux_lemma =>
            go_wp2_with (first | (go_at_call 51; (with_reducible refine (impl_IsSmooth.calls k3 t296 (rd (rd_L1 t297 x203_3) 0) t331 true _ A70.out).mono ?_); rintro e w84 ⟨rfl, hb⟩; have n0_ := Aside0.mk (Kd.N_below (by (with_reducible repeat (first | apply Kd.N_alloc | apply Kd.N_drewN | apply Kd.N_drew)); exact HO_6.out) hb); have n1_ := Aside0.mk (Kd.N_below (by (with_reducible repeat (first | apply Kd.N_alloc | apply Kd.N_drewN | apply Kd.N_drew)); exact HO_201.out) hb); have n2_ := Aside0.mk (Kd.V_below (by (with_reducible repeat (first | apply Kd.V_alloc | apply Kd.V_drewN | apply Kd.V_drew)); exact HL326_0.out) hb); have n3_ := Aside0.mk (Kd.C_below (by repeat (first | (with_reducible exact HR326_0.out) | (with_reducible refine Kd.C_alloc ?_ _) | (with_reducible refine Kd.C_drewN ?_ _) | (with_reducible refine Kd.C_drew ?_) | exact HR326_0.out)) hb); have n4_ := Aside0.mk (below_step (by repeat (first | (with_reducible first | exact HB.out | apply below_alloc | apply pw_below_drewN | apply below_drew1) | exact HB.out)) hb); clear HO_6; clear HO_201; clear HL326_0; clear HR326_0; clear HB; have HO_6 := n0_; have HO_201 := n1_; have HL326_0 := n2_; have HR326_0 := n3_; have HB := n4_; clear n0_ n1_ n2_ n3_ n4_; (try clear hb); (try clear hb2); (try clear hk); (try clear hi); have p333 : 0 ≤ (1 : Int) := (by omega); have q333 : 1 < ((rd_L1 t297 x203_3).length : Int) := of_decide_eq_true (by first | (with_reducible assumption) | assumption); obtain ⟨ad333, e333, hx333_0⟩ := Kd.at_int (by repeat (first | (with_reducible exact HR326_0.out) | (with_reducible refine Kd.C_alloc ?_ _) | (with_reducible refine Kd.C_drewN ?_ _) | (with_reducible refine Kd.C_drew ?_) | exact HR326_0.out)) 1 p333 q333; obtain rfl : ad327 = ad333 := (by injection e333); (try simp only [show (1 : Int).toNat = 1 from rfl, Nat.reduceMul, Nat.reduceEqDiff, Go.Addr.add, ↓reduceIte] at hx333_0); have qi333 : (1 < (rd_L1 t297 x203_3).length) = True := eq_true (by omega); (try rw [show ((1 : Int)).toNat = 1 from rfl] at hx333_0); replace p333 := eq_true p333; replace q333 := eq_true q333; have p334 : 0 ≤ ((ji77) : Int) := of_decide_eq_true (by first | (with_reducible assumption) | assumption); have q334 : (ji77) < (t297.length : Int) := of_decide_eq_true (by first | (with_reducible assumption) | assumption); obtain ⟨ad334, A334_0, c334_0, e334, hx334_0, hl334_0, hi334_0⟩ := at_L1 (Kd.N_reads' HO_6.out).2.2 (ji77) p334 q334; obtain rfl : ad326 = ad334 := (by injection e334); obtain ⟨ce334, hce334, hMe334, hcc334⟩ := Kd.N_get HO_6.out [] (ji77) p334 (by first | exact q334 | exact of_decide_eq_true (by first | (with_reducible assumption) | assumption) | (have e_ := (Kd.N_reads' HO_6.out).1; omega)); obtain ⟨ua334_0, uc334_0, rfl, ul334_0, ge334_0⟩ := Kd.FK_slice_open hMe334; have hv334_0 := hcc334 0 _ rfl; rw [Nat.add_zero, show ((Kd.slice 3 (Kd.int .i64))).sz = 1 from rfl, Nat.mul_one] at hv334_0; replace hv334_0 := Option.some.inj (hv334_0.symm.trans hx334_0); injection hv334_0 with hva_ hvn_ hvc_; rw [hva_] at ge334_0; rw [hvc_] at ul334_0; have HL334_0 := Aside0.mk (show Kd.V (Kd.int .i64) 3 _ w.heap.size _ _ (rd_L1 t297 (ji77)) from Kd.V_mk ul334_0 ge334_0); clear hva_ hvn_ hvc_ ge334_0 ul334_0; clear hcc334 hce334; have HR334_0 := Aside0.mk hi334_0; have HC334_0 := Aside0.mk hl334_0; clear hi334_0 hl334_0; replace p334 := eq_true p334; replace q334 := eq_true q334; have p335 : 0 ≤ (0 : Int) := (by omega); have q335 : 0 < ((rd_L1 t297 (ji77)).length : Int) := of_decide_eq_true (by first | (with_reducible assumption) | assumption); obtain ⟨ad335, e335, hx335_0⟩ := Kd.at_int (by repeat (first | (with_reducible exact HR334_0.out) | (with_reducible refine Kd.C_alloc ?_ _) | (with_reducible refine Kd.C_drewN ?_ _) | (with_reducible refine Kd.C_drew ?_) | exact HR334_0.out)) 0 p335 q335; cases e335; have qi335 : (0 < (rd_L1 t297 (ji77)).length) = True := eq_true (by omega); (try rw [show ((0 : Int)).toNat = 0 from rfl] at hx335_0); (try rw [Addr.add_zero'] at hx335_0); replace p335 := eq_true p335; replace q335 := eq_true q335; have p336 : 0 ≤ (0 : Int) := (by omega); have q336 : 0 < ((rd_L1 t297 x203_3).length : Int) := of_decide_eq_true (by first | (with_reducible assumption) | assumption); obtain ⟨ad336, e336, hx336_0⟩ := Kd.at_int (by repeat (first | (with_reducible exact HR326_0.out) | (with_reducible refine Kd.C_alloc ?_ _) | (with_reducible refine Kd.C_drewN ?_ _) | (with_reducible refine Kd.C_drew ?_) | exact HR326_0.out)) 0 p336 q336; obtain rfl : ad327 = ad336 := (by injection e336); have qi336 : (0 < (rd_L1 t297 x203_3).length) = True := eq_true (by omega); (try rw [show ((0 : Int)).toNat = 0 from rfl] at hx336_0); (try rw [Addr.add_zero'] at hx336_0); replace p336 := eq_true p336; replace q336 := eq_true q336; have p337 : 0 ≤ (0 : Int) := (by omega); have q337 : 0 < ((rd_L1 t297 x203_3).length : Int) := of_decide_eq_true (by first | (with_reducible assumption) | assumption); obtain ⟨ad337, e337, hx337_0⟩ := Kd.at_int (by repeat (first | (with_reducible exact HR326_0.out) | (with_reducible refine Kd.C_alloc ?_ _) | (with_reducible refine Kd.C_drewN ?_ _) | (with_reducible refine Kd.C_drew ?_) | exact HR326_0.out)) 0 p337 q337; obtain rfl : ad327 = ad337 := (by injection e337); have qi337 : (0 < (rd_L1 t297 x203_3).length) = True := eq_true (by omega); (try rw [show ((0 : Int)).toNat = 0 from rfl] at hx337_0); (try rw [Addr.add_zero'] at hx337_0); replace p337 := eq_true p337; replace q337 := eq_true q337))
            repeat (go_quiet (first | (go_at_call 48; (with_reducible refine (impl_IsPrime.calls k3 (rd (rd_L1 t297 x203_3) 0) true true _ A69.out).mono ?_); rintro e w' ⟨rfl, ⟨nd, rfl⟩⟩; (try first | exact ⟨rfl, _, World.drewN_drewN _ _ _⟩ | exact ⟨rfl, _, Eq.trans (World.drewN_drewN _ _ _) (congrArg (World.drewN _) (Nat.add_assoc _ _ _))⟩); have p330 : 0 ≤ (0 : Int) := (by omega); have q330 : 0 < ((rd_L1 t297 x203_3).length : Int) := of_decide_eq_true (by first | (with_reducible assumption) | assumption); obtain ⟨ad330, e330, hx330_0⟩ := Kd.at_int (by repeat (first | (with_reducible exact HR326_0.out) | (with_reducible refine Kd.C_alloc ?_ _) | (with_reducible refine Kd.C_drewN ?_ _) | (with_reducible refine Kd.C_drew ?_) | exact HR326_0.out)) 0 p330 q330; obtain rfl : ad327 = ad330 := (by injection e330); have qi330 : (0 < (rd_L1 t297 x203_3).length) = True := eq_true (by omega); (try rw [show ((0 : Int)).toNat = 0 from rfl] at hx330_0); (try rw [Addr.add_zero'] at hx330_0); replace p330 := eq_true p330; replace q330 := eq_true q330) | (go_at_call 51; (with_reducible refine (impl_IsSmooth.calls k3 t296 (rd (rd_L1 t297 x203_3) 0) t331 true _ A70.out).mono ?_); rintro e w84 ⟨rfl, hb⟩; have n0_ := Aside0.mk (Kd.N_below (by (with_reducible repeat (first | apply Kd.N_alloc | apply Kd.N_drewN | apply Kd.N_drew)); exact HO_6.out) hb); have n1_ := Aside0.mk (Kd.N_below (by (with_reducible repeat (first | apply Kd.N_alloc | apply Kd.N_drewN | apply Kd.N_drew)); exact HO_201.out) hb); have n2_ := Aside0.mk (Kd.V_below (by (with_reducible repeat (first | apply Kd.V_alloc | apply Kd.V_drewN | apply Kd.V_drew)); exact HL326_0.out) hb); have n3_ := Aside0.mk (Kd.C_below (by repeat (first | (with_reducible exact HR326_0.out) | (with_reducible refine Kd.C_alloc ?_ _) | (with_reducible refine Kd.C_drewN ?_ _) | (with_reducible refine Kd.C_drew ?_) | exact HR326_0.out)) hb); have n4_ := Aside0.mk (below_step (by repeat (first | (with_reducible first | exact HB.out | apply below_alloc | apply pw_below_drewN | apply below_drew1) | exact HB.out)) hb); clear HO_6; clear HO_201; clear HL326_0; clear HR326_0; clear HB; have HO_6 := n0_; have HO_201 := n1_; have HL326_0 := n2_; have HR326_0 := n3_; have HB := n4_; clear n0_ n1_ n2_ n3_ n4_; (try clear hb); (try clear hb2); (try clear hk); (try clear hi); have p333 : 0 ≤ (1 : Int) := (by omega); have q333 : 1 < ((rd_L1 t297 x203_3).length : Int) := of_decide_eq_true (by first | (with_reducible assumption) | assumption); obtain ⟨ad333, e333, hx333_0⟩ := Kd.at_int (by repeat (first | (with_reducible exact HR326_0.out) | (with_reducible refine Kd.C_alloc ?_ _) | (with_reducible refine Kd.C_drewN ?_ _) | (with_reducible refine Kd.C_drew ?_) | exact HR326_0.out)) 1 p333 q333; obtain rfl : ad327 = ad333 := (by injection e333); (try simp only [show (1 : Int).toNat = 1 from rfl, Nat.reduceMul, Nat.reduceEqDiff, Go.Addr.add, ↓reduceIte] at hx333_0); have qi333 : (1 < (rd_L1 t297 x203_3).length) = True := eq_true (by omega); (try rw [show ((1 : Int)).toNat = 1 from rfl] at hx333_0); replace p333 := eq_true p333; replace q333 := eq_true q333; have p334 : 0 ≤ ((ji77) : Int) := of_decide_eq_true (by first | (with_reducible assumption) | assumption); have q334 : (ji77) < (t297.length : Int) := of_decide_eq_true (by first | (with_reducible assumption) | assumption); obtain ⟨ad334, A334_0, c334_0, e334, hx334_0, hl334_0, hi334_0⟩ := at_L1 (Kd.N_reads' HO_6.out).2.2 (ji77) p334 q334; obtain rfl : ad326 = ad334 := (by injection e334); obtain ⟨ce334, hce334, hMe334, hcc334⟩ := Kd.N_get HO_6.out [] (ji77) p334 (by first | exact q334 | exact of_decide_eq_true (by first | (with_reducible assumption) | assumption) | (have e_ := (Kd.N_reads' HO_6.out).1; omega)); obtain ⟨ua334_0, uc334_0, rfl, ul334_0, ge334_0⟩ := Kd.FK_slice_open hMe334; have hv334_0 := hcc334 0 _ rfl; rw [Nat.add_zero, show ((Kd.slice 3 (Kd.int .i64))).sz = 1 from rfl, Nat.mul_one] at hv334_0; replace hv334_0 := Option.some.inj (hv334_0.symm.trans hx334_0); injection hv334_0 with hva_ hvn_ hvc_; rw [hva_] at ge334_0; rw [hvc_] at ul334_0; have HL334_0 := Aside0.mk (show Kd.V (Kd.int .i64) 3 _ w.heap.size _ _ (rd_L1 t297 (ji77)) from Kd.V_mk ul334_0 ge334_0); clear hva_ hvn_ hvc_ ge334_0 ul334_0; clear hcc334 hce334; have HR334_0 := Aside0.mk hi334_0; have HC334_0 := Aside0.mk hl334_0; clear hi334_0 hl334_0; replace p334 := eq_true p334; replace q334 := eq_true q334; have p335 : 0 ≤ (0 : Int) := (by omega); have q335 : 0 < ((rd_L1 t297 (ji77)).length : Int) := of_decide_eq_true (by first | (with_reducible assumption) | assumption); obtain ⟨ad335, e335, hx335_0⟩ := Kd.at_int (by repeat (first | (with_reducible exact HR334_0.out) | (with_reducible refine Kd.C_alloc ?_ _) | (with_reducible refine Kd.C_drewN ?_ _) | (with_reducible refine Kd.C_drew ?_) | exact HR334_0.out)) 0 p335 q335; cases e335; have qi335 : (0 < (rd_L1 t297 (ji77)).length) = True := eq_true (by omega); (try rw [show ((0 : Int)).toNat = 0 from rfl] at hx335_0); (try rw [Addr.add_zero'] at hx335_0); replace p335 := eq_true p335; replace q335 := eq_true q335; have p336 : 0 ≤ (0 : Int) := (by omega); have q336 : 0 < ((rd_L1 t297 x203_3).length : Int) := of_decide_eq_true (by first | (with_reducible assumption) | assumption); obtain ⟨ad336, e336, hx336_0⟩ := Kd.at_int (by repeat (first | (with_reducible exact HR326_0.out) | (with_reducible refine Kd.C_alloc ?_ _) | (with_reducible refine Kd.C_drewN ?_ _) | (with_reducible refine Kd.C_drew ?_) | exact HR326_0.out)) 0 p336 q336; obtain rfl : ad327 = ad336 := (by injection e336); have qi336 : (0 < (rd_L1 t297 x203_3).length) = True := eq_true (by omega); (try rw [show ((0 : Int)).toNat = 0 from rfl] at hx336_0); (try rw [Addr.add_zero'] at hx336_0); replace p336 := eq_true p336; replace q336 := eq_true q336; have p337 : 0 ≤ (0 : Int) := (by omega); have q337 : 0 < ((rd_L1 t297 x203_3).length : Int) := of_decide_eq_true (by first | (with_reducible assumption) | assumption); obtain ⟨ad337, e337, hx337_0⟩ := Kd.at_int (by repeat (first | (with_reducible exact HR326_0.out) | (with_reducible refine Kd.C_alloc ?_ _) | (with_reducible refine Kd.C_drewN ?_ _) | (with_reducible refine Kd.C_drew ?_) | exact HR326_0.out)) 0 p337 q337; obtain rfl : ad327 = ad337 := (by injection e337); have qi337 : (0 < (rd_L1 t297 x203_3).length) = True := eq_true (by omega); (try rw [show ((0 : Int)).toNat = 0 from rfl] at hx337_0); (try rw [Addr.add_zero'] at hx337_0); replace p337 := eq_true p337; replace q337 := eq_true q337)); try go_wp2_with (first | (go_at_call 48; (with_reducible refine (impl_IsPrime.calls k3 (rd (rd_L1 t297 x203_3) 0) true true _ A69.out).mono ?_); rintro e w' ⟨rfl, ⟨nd, rfl⟩⟩; (try first | exact ⟨rfl, _, World.drewN_drewN _ _ _⟩ | exact ⟨rfl, _, Eq.trans (World.drewN_drewN _ _ _) (congrArg (World.drewN _) (Nat.add_assoc _ _ _))⟩); have p330 : 0 ≤ (0 : Int) := (by omega); have q330 : 0 < ((rd_L1 t297 x203_3).length : Int) := of_decide_eq_true (by first | (with_reducible assumption) | assumption); obtain ⟨ad330, e330, hx330_0⟩ := Kd.at_int (by repeat (first | (with_reducible exact HR326_0.out) | (with_reducible refine Kd.C_alloc ?_ _) | (with_reducible refine Kd.C_drewN ?_ _) | (with_reducible refine Kd.C_drew ?_) | exact HR326_0.out)) 0 p330 q330; obtain rfl : ad327 = ad330 := (by injection e330); have qi330 : (0 < (rd_L1 t297 x203_3).length) = True := eq_true (by omega); (try rw [show ((0 : Int)).toNat = 0 from rfl] at hx330_0); (try rw [Addr.add_zero'] at hx330_0); replace p330 := eq_true p330; replace q330 := eq_true q330) | (go_at_call 51; (with_reducible refine (impl_IsSmooth.calls k3 t296 (rd (rd_L1 t297 x203_3) 0) t331 true _ A70.out).mono ?_); rintro e w84 ⟨rfl, hb⟩; have n0_ := Aside0.mk (Kd.N_below (by (with_reducible repeat (first | apply Kd.N_alloc | apply Kd.N_drewN | apply Kd.N_drew)); exact HO_6.out) hb); have n1_ := Aside0.mk (Kd.N_below (by (with_reducible repeat (first | apply Kd.N_alloc | apply Kd.N_drewN | apply Kd.N_drew)); exact HO_201.out) hb); have n2_ := Aside0.mk (Kd.V_below (by (with_reducible repeat (first | apply Kd.V_alloc | apply Kd.V_drewN | apply Kd.V_drew)); exact HL326_0.out) hb); have n3_ := Aside0.mk (Kd.C_below (by repeat (first | (with_reducible exact HR326_0.out) | (with_reducible refine Kd.C_alloc ?_ _) | (with_reducible refine Kd.C_drewN ?_ _) | (with_reducible refine Kd.C_drew ?_) | exact HR326_0.out)) hb); have n4_ := Aside0.mk (below_step (by repeat (first | (with_reducible first | exact HB.out | apply below_alloc | apply pw_below_drewN | apply below_drew1) | exact HB.out)) hb); clear HO_6; clear HO_201; clear HL326_0; clear HR326_0; clear HB; have HO_6 := n0_; have HO_201 := n1_; have HL326_0 := n2_; have HR326_0 := n3_; have HB := n4_; clear n0_ n1_ n2_ n3_ n4_; (try clear hb); (try clear hb2); (try clear hk); (try clear hi); have p333 : 0 ≤ (1 : Int) := (by omega); have q333 : 1 < ((rd_L1 t297 x203_3).length : Int) := of_decide_eq_true (by first | (with_reducible assumption) | assumption); obtain ⟨ad333, e333, hx333_0⟩ := Kd.at_int (by repeat (first | (with_reducible exact HR326_0.out) | (with_reducible refine Kd.C_alloc ?_ _) | (with_reducible refine Kd.C_drewN ?_ _) | (with_reducible refine Kd.C_drew ?_) | exact HR326_0.out)) 1 p333 q333; obtain rfl : ad327 = ad333 := (by injection e333); (try simp only [show (1 : Int).toNat = 1 from rfl, Nat.reduceMul, Nat.reduceEqDiff, Go.Addr.add, ↓reduceIte] at hx333_0); have qi333 : (1 < (rd_L1 t297 x203_3).length) = True := eq_true (by omega); (try rw [show ((1 : Int)).toNat = 1 from rfl] at hx333_0); replace p333 := eq_true p333; replace q333 := eq_true q333; have p334 : 0 ≤ ((ji77) : Int) := of_decide_eq_true (by first | (with_reducible assumption) | assumption); have q334 : (ji77) < (t297.length : Int) := of_decide_eq_true (by first | (with_reducible assumption) | assumption); obtain ⟨ad334, A334_0, c334_0, e334, hx334_0, hl334_0, hi334_0⟩ := at_L1 (Kd.N_reads' HO_6.out).2.2 (ji77) p334 q334; obtain rfl : ad326 = ad334 := (by injection e334); obtain ⟨ce334, hce334, hMe334, hcc334⟩ := Kd.N_get HO_6.out [] (ji77) p334 (by first | exact q334 | exact of_decide_eq_true (by first | (with_reducible assumption) | assumption) | (have e_ := (Kd.N_reads' HO_6.out).1; omega)); obtain ⟨ua334_0, uc334_0, rfl, ul334_0, ge334_0⟩ := Kd.FK_slice_open hMe334; have hv334_0 := hcc334 0 _ rfl; rw [Nat.add_zero, show ((Kd.slice 3 (Kd.int .i64))).sz = 1 from rfl, Nat.mul_one] at hv334_0; replace hv334_0 := Option.some.inj (hv334_0.symm.trans hx334_0); injection hv334_0 with hva_ hvn_ hvc_; rw [hva_] at ge334_0; rw [hvc_] at ul334_0; have HL334_0 := Aside0.mk (show Kd.V (Kd.int .i64) 3 _ w.heap.size _ _ (rd_L1 t297 (ji77)) from Kd.V_mk ul334_0 ge334_0); clear hva_ hvn_ hvc_ ge334_0 ul334_0; clear hcc334 hce334; have HR334_0 := Aside0.mk hi334_0; have HC334_0 := Aside0.mk hl334_0; clear hi334_0 hl334_0; replace p334 := eq_true p334; replace q334 := eq_true q334; have p335 : 0 ≤ (0 : Int) := (by omega); have q335 : 0 < ((rd_L1 t297 (ji77)).length : Int) := of_decide_eq_true (by first | (with_reducible assumption) | assumption); obtain ⟨ad335, e335, hx335_0⟩ := Kd.at_int (by repeat (first | (with_reducible exact HR334_0.out) | (with_reducible refine Kd.C_alloc ?_ _) | (with_reducible refine Kd.C_drewN ?_ _) | (with_reducible refine Kd.C_drew ?_) | exact HR334_0.out)) 0 p335 q335; cases e335; have qi335 : (0 < (rd_L1 t297 (ji77)).length) = True := eq_true (by omega); (try rw [show ((0 : Int)).toNat = 0 from rfl] at hx335_0); (try rw [Addr.add_zero'] at hx335_0); replace p335 := eq_true p335; replace q335 := eq_true q335; have p336 : 0 ≤ (0 : Int) := (by omega); have q336 : 0 < ((rd_L1 t297 x203_3).length : Int) := of_decide_eq_true (by first | (with_reducible assumption) | assumption); obtain ⟨ad336, e336, hx336_0⟩ := Kd.at_int (by repeat (first | (with_reducible exact HR326_0.out) | (with_reducible refine Kd.C_alloc ?_ _) | (with_reducible refine Kd.C_drewN ?_ _) | (with_reducible refine Kd.C_drew ?_) | exact HR326_0.out)) 0 p336 q336; obtain rfl : ad327 = ad336 := (by injection e336); have qi336 : (0 < (rd_L1 t297 x203_3).length) = True := eq_true (by omega); (try rw [show ((0 : Int)).toNat = 0 from rfl] at hx336_0); (try rw [Addr.add_zero'] at hx336_0); replace p336 := eq_true p336; replace q336 := eq_true q336; have p337 : 0 ≤ (0 : Int) := (by omega); have q337 : 0 < ((rd_L1 t297 x203_3).length : Int) := of_decide_eq_true (by first | (with_reducible assumption) | assumption); obtain ⟨ad337, e337, hx337_0⟩ := Kd.at_int (by repeat (first | (with_reducible exact HR326_0.out) | (with_reducible refine Kd.C_alloc ?_ _) | (with_reducible refine Kd.C_drewN ?_ _) | (with_reducible refine Kd.C_drew ?_) | exact HR326_0.out)) 0 p337 q337; obtain rfl : ad327 = ad337 := (by injection e337); have qi337 : (0 < (rd_L1 t297 x203_3).length) = True := eq_true (by omega); (try rw [show ((0 : Int)).toNat = 0 from rfl] at hx337_0); (try rw [Addr.add_zero'] at hx337_0); replace p337 := eq_true p337; replace q337 := eq_true q337)))
            first | go_roundg k3 | (try subst hji77; go_roundg k3)
            case measure => have := HJ13.out; have := HJ40.out; have := HK3.out; omega
            case rel => exact ⟨(wrap64 (x24_3 * (rd (rd_L1 t297 x203_3) 0))), (wrap64 (x203_3 + 1)), (by first | rfl | (simp; done) | (simp [*]; done)), (by first | rfl | (simp; done) | (simp [*]; done)), H', ⟨by have := HJ13.out; have := HJ40.out; have := HK3.out; omega⟩, ⟨by (with_reducible repeat (first | apply Kd.N_alloc | apply Kd.N_drewN | apply Kd.N_drew)); exact HO_6.out⟩, ⟨by (with_reducible repeat (first | apply Kd.N_alloc | apply Kd.N_drewN | apply Kd.N_drew)); exact HO_201.out⟩, ⟨by repeat (first | (with_reducible first | exact HB.out | apply below_alloc | apply pw_below_drewN | apply below_drew1) | exact HB.out)⟩⟩
           ·as_aux_lemma =>
            rw [if_neg c76] at H
            have c76b0 : decide (0 < x203_3) = false := decide_eq_false c76
            clear c76
            have c85 : t332 = true := Classical.byContradiction fun c85 => by
             replace c85 := Bool.eq_false_iff.mpr c85
             subst c85
             have H1 : (none) = some r := by rw [if_neg (show ¬ (false = true) by decide)] at H; exact H
             clear H
             have H := H1
             clear H1
             exact absurd H (by simp)
            subst c85
            have H1 : (if (t331 != (x203_3 == (wrap64 ((t297.length : Int) - 1)))) = true then (none) else (laws_FnFactorsTold.l0 k3 l1 t296 t297 t305 (wrap64 (x24_3 * (rd (rd_L1 t297 x203_3) 0))) t297 (t297.length : Int) (wrap64 (x203_3 + 1)))) = some r := by rw [if_pos rfl] at H; exact H
            clear H
            have H := H1
            clear H1
            have c86 : ¬ ((t331 != (x203_3 == (wrap64 ((t297.length : Int) - 1)))) = true) := fun c86 => by
             rw [if_pos c86] at H
             exact absurd H (by simp)
            rw [if_neg c86] at H
            have c86b0 : (t331 != (x203_3 == (wrap64 ((t297.length : Int) - 1)))) = false := by simpa using c86
            (try (have c86b1 : decide (t331 = (x203_3 == (wrap64 ((t297.length : Int) - 1)))) = true := by simpa using c86))
            (try (have c86b2 : (t331 == (x203_3 == (wrap64 ((t297.length : Int) - 1)))) = true := by simpa using c86))
            clear c86
            have H' := Aside0.mk H
            clear H
            have p326 : 0 ≤ (x203_3 : Int) := of_decide_eq_true (by first | (with_reducible assumption) | assumption)
            have q326 : x203_3 < (t297.length : Int) := of_decide_eq_true (by first | (with_reducible assumption) | assumption)
            obtain ⟨ad326, A326_0, c326_0, e326, hx326_0, hl326_0, hi326_0⟩ := at_L1 (Kd.N_reads' HO_201.out).2.2 x203_3 p326 q326
            cases e326
            obtain ⟨ce326, hce326, hMe326, hcc326⟩ := Kd.N_get HO_201.out [] x203_3 p326 (by first | exact q326 | exact of_decide_eq_true (by first | (with_reducible assumption) | assumption) | (have e_ := (Kd.N_reads' HO_201.out).1; omega))
            obtain ⟨ua326_0, uc326_0, rfl, ul326_0, ge326_0⟩ := Kd.FK_slice_open hMe326
            have hv326_0 := hcc326 0 _ rfl
            rw [Nat.add_zero, show ((Kd.slice 3 (Kd.int .i64))).sz = 1 from rfl, Nat.mul_one] at hv326_0
            replace hv326_0 := Option.some.inj (hv326_0.symm.trans hx326_0)
            injection hv326_0 with hva_ hvn_ hvc_
            rw [hva_] at ge326_0
            rw [hvc_] at ul326_0
            have HL326_0 := Aside0.mk (show Kd.V (Kd.int .i64) 3 _ w.heap.size _ _ (rd_L1 t297 x203_3) from Kd.V_mk ul326_0 ge326_0)
            clear hva_ hvn_ hvc_ ge326_0 ul326_0
            clear hcc326 hce326
            have HR326_0 := Aside0.mk hi326_0
            have HC326_0 := Aside0.mk hl326_0
            clear hi326_0 hl326_0
            replace p326 := eq_true p326
            replace q326 := eq_true q326
            have p327 : 0 ≤ (0 : Int) := (by omega)
            have q327 : 0 < ((rd_L1 t297 x203_3).length : Int) := of_decide_eq_true (by first | (with_reducible assumption) | assumption)
            obtain ⟨ad327, e327, hx327_0⟩ := Kd.at_int (by repeat (first | (with_reducible exact HR326_0.out) | (with_reducible refine Kd.C_alloc ?_ _) | (with_reducible refine Kd.C_drewN ?_ _) | (with_reducible refine Kd.C_drew ?_) | exact HR326_0.out)) 0 p327 q327
            cases e327
            have qi327 : (0 < (rd_L1 t297 x203_3).length) = True := eq_true (by omega)
            (try rw [show ((0 : Int)).toNat = 0 from rfl] at hx327_0)
            (try rw [Addr.add_zero'] at hx327_0)
            replace p327 := eq_true p327
            replace q327 := eq_true q327
            as_aux_lemma =>
            go_wp2_with (first | (go_at_call 48; (with_reducible refine (impl_IsPrime.calls k3 (rd (rd_L1 t297 x203_3) 0) true true _ A69.out).mono ?_); rintro e w' ⟨rfl, ⟨nd, rfl⟩⟩; (try first | exact ⟨rfl, _, World.drewN_drewN _ _ _⟩ | exact ⟨rfl, _, Eq.trans (World.drewN_drewN _ _ _) (congrArg (World.drewN _) (Nat.add_assoc _ _ _))⟩); have p330 : 0 ≤ (0 : Int) := (by omega); have q330 : 0 < ((rd_L1 t297 x203_3).length : Int) := of_decide_eq_true (by first | (with_reducible assumption) | assumption); obtain ⟨ad330, e330, hx330_0⟩ := Kd.at_int (by repeat (first | (with_reducible exact HR326_0.out) | (with_reducible refine Kd.C_alloc ?_ _) | (with_reducible refine Kd.C_drewN ?_ _) | (with_reducible refine Kd.C_drew ?_) | exact HR326_0.out)) 0 p330 q330; obtain rfl : ad327 = ad330 := (by injection e330); have qi330 : (0 < (rd_L1 t297 x203_3).length) = True := eq_true (by omega); (try rw [show ((0 : Int)).toNat = 0 from rfl] at hx330_0); (try rw [Addr.add_zero'] at hx330_0); replace p330 := eq_true p330; replace q330 := eq_true q330))
            as_aux_lemma =>
            go_wp2_with (first | (go_at_call 51; (with_reducible refine (impl_IsSmooth.calls k3 t296 (rd (rd_L1 t297 x203_3) 0) t331 true _ A70.out).mono ?_); rintro e w87 ⟨rfl, hb⟩; have n0_ := Aside0.mk (Kd.N_below (by (with_reducible repeat (first | apply Kd.N_alloc | apply Kd.N_drewN | apply Kd.N_drew)); exact HO_6.out) hb); have n1_ := Aside0.mk (Kd.N_below (by (with_reducible repeat (first | apply Kd.N_alloc | apply Kd.N_drewN | apply Kd.N_drew)); exact HO_201.out) hb); have n2_ := Aside0.mk (Kd.V_below (by (with_reducible repeat (first | apply Kd.V_alloc | apply Kd.V_drewN | apply Kd.V_drew)); exact HL326_0.out) hb); have n3_ := Aside0.mk (Kd.C_below (by repeat (first | (with_reducible exact HR326_0.out) | (with_reducible refine Kd.C_alloc ?_ _) | (with_reducible refine Kd.C_drewN ?_ _) | (with_reducible refine Kd.C_drew ?_) | exact HR326_0.out)) hb); have n4_ := Aside0.mk (below_step (by repeat (first | (with_reducible first | exact HB.out | apply below_alloc | apply pw_below_drewN | apply below_drew1) | exact HB.out)) hb); clear HO_6; clear HO_201; clear HL326_0; clear HR326_0; clear HB; have HO_6 := n0_; have HO_201 := n1_; have HL326_0 := n2_; have HR326_0 := n3_; have HB := n4_; clear n0_ n1_ n2_ n3_ n4_; (try clear hb); (try clear hb2); (try clear hk); (try clear hi); have p333 : 0 ≤ (1 : Int) := (by omega); have q333 : 1 < ((rd_L1 t297 x203_3).length : Int) := of_decide_eq_true (by first | (with_reducible assumption) | assumption); obtain ⟨ad333, e333, hx333_0⟩ := Kd.at_int (by repeat (first | (with_reducible exact HR326_0.out) | (with_reducible refine Kd.C_alloc ?_ _) | (with_reducible refine Kd.C_drewN ?_ _) | (with_reducible refine Kd.C_drew ?_) | exact HR326_0.out)) 1 p333 q333; obtain rfl : ad327 = ad333 := (by injection e333); (try simp only [show (1 : Int).toNat = 1 from rfl, Nat.reduceMul, Nat.reduceEqDiff, Go.Addr.add, ↓reduceIte] at hx333_0); have qi333 : (1 < (rd_L1 t297 x203_3).length) = True := eq_true (by omega); (try rw [show ((1 : Int)).toNat = 1 from rfl] at hx333_0); replace p333 := eq_true p333; replace q333 := eq_true q333; have p338 : 0 ≤ (0 : Int) := (by omega); have q338 : 0 < ((rd_L1 t297 x203_3).length : Int) := of_decide_eq_true (by first | (with_reducible assumption) | assumption); obtain ⟨ad338, e338, hx338_0⟩ := Kd.at_int (by repeat (first | (with_reducible exact HR326_0.out) | (with_reducible refine Kd.C_alloc ?_ _) | (with_reducible refine Kd.C_drewN ?_ _) | (with_reducible refine Kd.C_drew ?_) | exact HR326_0.out)) 0 p338 q338; obtain rfl : ad327 = ad338 := (by injection e338); have qi338 : (0 < (rd_L1 t297 x203_3).length) = True := eq_true (by omega); (try rw [show ((0 : Int)).toNat = 0 from rfl] at hx338_0); (try rw [Addr.add_zero'] at hx338_0); replace p338 := eq_true p338; replace q338 := eq_true q338))
            repeat (go_quiet (first | (go_at_call 48; (with_reducible refine (impl_IsPrime.calls k3 (rd (rd_L1 t297 x203_3) 0) true true _ A69.out).mono ?_); rintro e w' ⟨rfl, ⟨nd, rfl⟩⟩; (try first | exact ⟨rfl, _, World.drewN_drewN _ _ _⟩ | exact ⟨rfl, _, Eq.trans (World.drewN_drewN _ _ _) (congrArg (World.drewN _) (Nat.add_assoc _ _ _))⟩); have p330 : 0 ≤ (0 : Int) := (by omega); have q330 : 0 < ((rd_L1 t297 x203_3).length : Int) := of_decide_eq_true (by first | (with_reducible assumption) | assumption); obtain ⟨ad330, e330, hx330_0⟩ := Kd.at_int (by repeat (first | (with_reducible exact HR326_0.out) | (with_reducible refine Kd.C_alloc ?_ _) | (with_reducible refine Kd.C_drewN ?_ _) | (with_reducible refine Kd.C_drew ?_) | exact HR326_0.out)) 0 p330 q330; obtain rfl : ad327 = ad330 := (by injection e330); have qi330 : (0 < (rd_L1 t297 x203_3).length) = True := eq_true (by omega); (try rw [show ((0 : Int)).toNat = 0 from rfl] at hx330_0); (try rw [Addr.add_zero'] at hx330_0); replace p330 := eq_true p330; replace q330 := eq_true q330) | (go_at_call 51; (with_reducible refine (impl_IsSmooth.calls k3 t296 (rd (rd_L1 t297 x203_3) 0) t331 true _ A70.out).mono ?_); rintro e w87 ⟨rfl, hb⟩; have n0_ := Aside0.mk (Kd.N_below (by (with_reducible repeat (first | apply Kd.N_alloc | apply Kd.N_drewN | apply Kd.N_drew)); exact HO_6.out) hb); have n1_ := Aside0.mk (Kd.N_below (by (with_reducible repeat (first | apply Kd.N_alloc | apply Kd.N_drewN | apply Kd.N_drew)); exact HO_201.out) hb); have n2_ := Aside0.mk (Kd.V_below (by (with_reducible repeat (first | apply Kd.V_alloc | apply Kd.V_drewN | apply Kd.V_drew)); exact HL326_0.out) hb); have n3_ := Aside0.mk (Kd.C_below (by repeat (first | (with_reducible exact HR326_0.out) | (with_reducible refine Kd.C_alloc ?_ _) | (with_reducible refine Kd.C_drewN ?_ _) | (with_reducible refine Kd.C_drew ?_) | exact HR326_0.out)) hb); have n4_ := Aside0.mk (below_step (by repeat (first | (with_reducible first | exact HB.out | apply below_alloc | apply pw_below_drewN | apply below_drew1) | exact HB.out)) hb); clear HO_6; clear HO_201; clear HL326_0; clear HR326_0; clear HB; have HO_6 := n0_; have HO_201 := n1_; have HL326_0 := n2_; have HR326_0 := n3_; have HB := n4_; clear n0_ n1_ n2_ n3_ n4_; (try clear hb); (try clear hb2); (try clear hk); (try clear hi); have p333 : 0 ≤ (1 : Int) := (by omega); have q333 : 1 < ((rd_L1 t297 x203_3).length : Int) := of_decide_eq_true (by first | (with_reducible assumption) | assumption); obtain ⟨ad333, e333, hx333_0⟩ := Kd.at_int (by repeat (first | (with_reducible exact HR326_0.out) | (with_reducible refine Kd.C_alloc ?_ _) | (with_reducible refine Kd.C_drewN ?_ _) | (with_reducible refine Kd.C_drew ?_) | exact HR326_0.out)) 1 p333 q333; obtain rfl : ad327 = ad333 := (by injection e333); (try simp only [show (1 : Int).toNat = 1 from rfl, Nat.reduceMul, Nat.reduceEqDiff, Go.Addr.add, ↓reduceIte] at hx333_0); have qi333 : (1 < (rd_L1 t297 x203_3).length) = True := eq_true (by omega); (try rw [show ((1 : Int)).toNat = 1 from rfl] at hx333_0); replace p333 := eq_true p333; replace q333 := eq_true q333; have p338 : 0 ≤ (0 : Int) := (by omega); have q338 : 0 < ((rd_L1 t297 x203_3).length : Int) := of_decide_eq_true (by first | (with_reducible assumption) | assumption); obtain ⟨ad338, e338, hx338_0⟩ := Kd.at_int (by repeat (first | (with_reducible exact HR326_0.out) | (with_reducible refine Kd.C_alloc ?_ _) | (with_reducible refine Kd.C_drewN ?_ _) | (with_reducible refine Kd.C_drew ?_) | exact HR326_0.out)) 0 p338 q338; obtain rfl : ad327 = ad338 := (by injection e338); have qi338 : (0 < (rd_L1 t297 x203_3).length) = True := eq_true (by omega); (try rw [show ((0 : Int)).toNat = 0 from rfl] at hx338_0); (try rw [Addr.add_zero'] at hx338_0); replace p338 := eq_true p338; replace q338 := eq_true q338)); try go_wp2_with (first | (go_at_call 48; (with_reducible refine (impl_IsPrime.calls k3 (rd (rd_L1 t297 x203_3) 0) true true _ A69.out).mono ?_); rintro e w' ⟨rfl, ⟨nd, rfl⟩⟩; (try first | exact ⟨rfl, _, World.drewN_drewN _ _ _⟩ | exact ⟨rfl, _, Eq.trans (World.drewN_drewN _ _ _) (congrArg (World.drewN _) (Nat.add_assoc _ _ _))⟩); have p330 : 0 ≤ (0 : Int) := (by omega); have q330 : 0 < ((rd_L1 t297 x203_3).length : Int) := of_decide_eq_true (by first | (with_reducible assumption) | assumption); obtain ⟨ad330, e330, hx330_0⟩ := Kd.at_int (by repeat (first | (with_reducible exact HR326_0.out) | (with_reducible refine Kd.C_alloc ?_ _) | (with_reducible refine Kd.C_drewN ?_ _) | (with_reducible refine Kd.C_drew ?_) | exact HR326_0.out)) 0 p330 q330; obtain rfl : ad327 = ad330 := (by injection e330); have qi330 : (0 < (rd_L1 t297 x203_3).length) = True := eq_true (by omega); (try rw [show ((0 : Int)).toNat = 0 from rfl] at hx330_0); (try rw [Addr.add_zero'] at hx330_0); replace p330 := eq_true p330; replace q330 := eq_true q330) | (go_at_call 51; (with_reducible refine (impl_IsSmooth.calls k3 t296 (rd (rd_L1 t297 x203_3) 0) t331 true _ A70.out).mono ?_); rintro e w87 ⟨rfl, hb⟩; have n0_ := Aside0.mk (Kd.N_below (by (with_reducible repeat (first | apply Kd.N_alloc | apply Kd.N_drewN | apply Kd.N_drew)); exact HO_6.out) hb); have n1_ := Aside0.mk (Kd.N_below (by (with_reducible repeat (first | apply Kd.N_alloc | apply Kd.N_drewN | apply Kd.N_drew)); exact HO_201.out) hb); have n2_ := Aside0.mk (Kd.V_below (by (with_reducible repeat (first | apply Kd.V_alloc | apply Kd.V_drewN | apply Kd.V_drew)); exact HL326_0.out) hb); have n3_ := Aside0.mk (Kd.C_below (by repeat (first | (with_reducible exact HR326_0.out) | (with_reducible refine Kd.C_alloc ?_ _) | (with_reducible refine Kd.C_drewN ?_ _) | (with_reducible refine Kd.C_drew ?_) | exact HR326_0.out)) hb); have n4_ := Aside0.mk (below_step (by repeat (first | (with_reducible first | exact HB.out | apply below_alloc | apply pw_below_drewN | apply below_drew1) | exact HB.out)) hb); clear HO_6; clear HO_201; clear HL326_0; clear HR326_0; clear HB; have HO_6 := n0_; have HO_201 := n1_; have HL326_0 := n2_; have HR326_0 := n3_; have HB := n4_; clear n0_ n1_ n2_ n3_ n4_; (try clear hb); (try clear hb2); (try clear hk); (try clear hi); have p333 : 0 ≤ (1 : Int) := (by omega); have q333 : 1 < ((rd_L1 t297 x203_3).length : Int) := of_decide_eq_true (by first | (with_reducible assumption) | assumption); obtain ⟨ad333, e333, hx333_0⟩ := Kd.at_int (by repeat (first | (with_reducible exact HR326_0.out) | (with_reducible refine Kd.C_alloc ?_ _) | (with_reducible refine Kd.C_drewN ?_ _) | (with_reducible refine Kd.C_drew ?_) | exact HR326_0.out)) 1 p333 q333; obtain rfl : ad327 = ad333 := (by injection e333); (try simp only [show (1 : Int).toNat = 1 from rfl, Nat.reduceMul, Nat.reduceEqDiff, Go.Addr.add, ↓reduceIte] at hx333_0); have qi333 : (1 < (rd_L1 t297 x203_3).length) = True := eq_true (by omega); (try rw [show ((1 : Int)).toNat = 1 from rfl] at hx333_0); replace p333 := eq_true p333; replace q333 := eq_true q333; have p338 : 0 ≤ (0 : Int) := (by omega); have q338 : 0 < ((rd_L1 t297 x203_3).length : Int) := of_decide_eq_true (by first | (with_reducible assumption) | assumption); obtain ⟨ad338, e338, hx338_0⟩ := Kd.at_int (by repeat (first | (with_reducible exact HR326_0.out) | (with_reducible refine Kd.C_alloc ?_ _) | (with_reducible refine Kd.C_drewN ?_ _) | (with_reducible refine Kd.C_drew ?_) | exact HR326_0.out)) 0 p338 q338; obtain rfl : ad327 = ad338 := (by injection e338); have qi338 : (0 < (rd_L1 t297 x203_3).length) = True := eq_true (by omega); (try rw [show ((0 : Int)).toNat = 0 from rfl] at hx338_0); (try rw [Addr.add_zero'] at hx338_0); replace p338 := eq_true p338; replace q338 := eq_true q338)))
            first | go_roundg k3 | (try subst hji77; go_roundg k3)
            case measure => have := HJ13.out; have := HJ40.out; have := HK3.out; omega
            case rel => exact ⟨(wrap64 (x24_3 * (rd (rd_L1 t297 x203_3) 0))), (wrap64 (x203_3 + 1)), (by first | rfl | (simp; done) | (simp [*]; done)), (by first | rfl | (simp; done) | (simp [*]; done)), H', ⟨by have := HJ13.out; have := HJ40.out; have := HK3.out; omega⟩, ⟨by (with_reducible repeat (first | apply Kd.N_alloc | apply Kd.N_drewN | apply Kd.N_drew)); exact HO_6.out⟩, ⟨by (with_reducible repeat (first | apply Kd.N_alloc | apply Kd.N_drewN | apply Kd.N_drew)); exact HO_201.out⟩, ⟨by repeat (first | (with_reducible first | exact HB.out | apply below_alloc | apply pw_below_drewN | apply below_drew1) | exact HB.out)⟩⟩
          ·as_aux_lemma =>
           rw [if_neg c65] at H
           have c65b0 : decide (x203_3 < (t297.length : Int)) = false := decide_eq_false c65
           clear c65
           have c88 : x24_3 = t305 := Classical.byContradiction fun c88 => by
            rw [if_neg c88] at H
            exact absurd H (by simp)
           rw [if_pos c88] at H
           have c88b0 : (x24_3 == t305) = true := beq_iff_eq.mpr c88
           have c88b1 : (x24_3 != t305) = false := bne_eq_false_iff_eq.mpr c88
           clear c88
           have H' := Aside0.mk H
           clear H
           go_wp2
           repeat (go_quiet (fail); try go_wp2)
           go_meet
           case rel => exact ⟨_, H', ⟨by have := HJ13.out; have := HJ40.out; have := HK3.out; first | omega | exact Nat.le_refl _⟩, ⟨by repeat (first | (with_reducible first | exact HB.out | apply below_alloc | apply pw_below_drewN | apply below_drew1) | exact HB.out)⟩⟩
     ·replace c39 := Bool.eq_false_iff.mpr c39
      subst c39
      have H1 : (laws_FnFactorsTold.j3 kj13 l1) = some r := by rw [if_neg (show ¬ (false = true) by decide)] at H; exact H
      clear H
      have H := H1
      clear H1
      have H' := Aside0.mk H
      clear H
      go_wp2
      repeat (go_quiet (fail); try go_wp2)
      go_meet
      case rel => exact ⟨_, H', ⟨by have := HJ13.out; first | omega | exact Nat.le_refl _⟩, ⟨by repeat (first | (with_reducible first | exact HB.out | apply below_alloc | apply pw_below_drewN | apply below_drew1) | exact HB.out)⟩⟩
    case rest =>
     as_aux_lemma =>
     clear HC38
     try clear c1
     try clear c2
     try clear p2
     try clear c3
     try clear p3
     try clear q3
     try clear hx3
     try clear qi3
     try clear c4
     try clear c5
     try clear c6
     try clear p6
     try clear c7
     try clear c8
     try clear c13
     try clear c20
     try clear c20b0
     try clear c20b1
     try clear c20b2
     try clear c22
     try clear c23
     try clear c23b0
     try clear c23b1
     try clear c23b2
     try clear c24
     try clear c24b0
     try clear c24b1
     try clear c25
     try clear c25b0
     try clear c25b1
     try clear c25b2
     try clear c26
     try clear c26b0
     try clear c26b1
     try clear c27
     try clear c27b0
     try clear c27b1
     try clear c27b2
     try clear c28
     try clear c28b0
     try clear c28b1
     try clear c28b2
     try clear c29
     try clear c29b0
     try clear c29b1
     try clear c29b2
     try clear c30
     try clear c31
     try clear c31b0
     try clear c31b1
     try clear c31b2
     try clear c32
     try clear p32
     try clear q32
     try clear hx32
     try clear qi32
     try clear c33
     try clear p33
     try clear q33
     try clear hx33
     try clear qi33
     try clear c34
     try clear c34b0
     try clear c34b1
     try clear c34b2
     try clear c37
     try clear c39
     try clear c44
     try clear c45
     try clear c45b0
     try clear c45b1
     try clear c46
     try clear c46b0
     try clear c46b1
     try clear c47
     try clear c47b0
     try clear c47b1
     try clear c48
     try clear c48b0
     try clear c48b1
     try clear c49
     try clear c49b0
     try clear c49b1
     try clear c49b2
     try clear c50
     try clear c50b0
     try clear c50b1
     try clear c51
     try clear c51b0
     try clear c51b1
     try clear c52
     try clear c53
     try clear c53b0
     try clear c53b1
     try clear c54
     try clear c54b0
     try clear c54b1
     try clear c55
     try clear c55b0
     try clear c55b1
     try clear c56
     try clear c56b0
     try clear c56b1
     try clear c56b2
     try clear c57
     try clear c57b0
     try clear c57b1
     try clear c58
     try clear c58b0
     try clear c58b1
     try clear c59
     try clear c60
     try clear c60b0
     try clear c60b1
     try clear c61
     try clear c61b0
     try clear c61b1
     try clear c62
     try clear c62b0
     try clear c62b1
     try clear c63
     try clear c63b0
     try clear c63b1
     try clear c64
     try clear p64
     try clear c65
     try clear c65b0
     try clear c66
     try clear c66b0
     try clear c67
     try clear c67b0
     try clear c68
     try clear c68b0
     try clear c68b1
     try clear c71
     try clear c71b0
     try clear c71b1
     try clear c72
     try clear c73
     try clear c74
     try clear c74b0
     try clear c74b1
     try clear c75
     try clear c75b0
     try clear c76
     try clear c76b0
     try clear c78
     try clear c78b0
     try clear c79
     try clear c79b0
     try clear c80
     try clear c80b0
     try clear c80b1
     try clear c81
     try clear c81b0
     try clear c82
     try clear c83
     try clear c83b0
     try clear c83b1
     try clear c83b2
     try clear c85
     try clear c86
     try clear c86b0
     try clear c86b1
     try clear c86b2
     try clear c88
     try clear c88b0
     try clear c88b1
     try clear hx320_0
     try clear hx321_0
     try clear hx322_0
     try clear hx323_0
     try clear hx324_0
     try clear hx325_0
     try clear hx326_0
     try clear hx327_0
     try clear hx330_0
     try clear hx333_0
     try clear hx334_0
     try clear hx335_0
     try clear hx336_0
     try clear hx337_0
     try clear hx338_0
     try clear p2
     try clear p3
     try clear p32
     try clear p320
     try clear p321
     try clear p322
     try clear p323
     try clear p324
     try clear p325
     try clear p326
     try clear p327
     try clear p330
     try clear p333
     try clear p334
     try clear p335
     try clear p336
     try clear p337
     try clear p338
     try clear q3
     try clear q32
     try clear q320
     try clear q321
     try clear q322
     try clear q323
     try clear q324
     try clear q325
     try clear q326
     try clear q327
     try clear q330
     try clear q333
     try clear q334
     try clear q335
     try clear q336
     try clear q337
     try clear q338
     obtain ⟨kq, HA, HJ37, HB⟩ := hcut
     cases kq with
     | zero => exact absurd HA.out (by simp [laws_FnFactorsTold.j3])
     | succ kj37 =>
      have H := HA.out
      clear HA
      simp only [laws_FnFactorsTold.j3] at H
      replace H := Option.bind_eq_some_iff.mp H
      obtain ⟨t339, A890, H⟩ := H
      replace H : ((impl_NumberOfFactors.f kj37 t339).bind fun bt342 => ((spec_NumberOfFactors.f kj37 t339).bind fun bt344 => ((spec_DrawIsSmooth.f l1).bind fun bt346 => ((impl_IsSmooth.f kj37 bt346.1 bt346.2).bind fun bt348 => ((spec_IsSmooth.f kj37 bt346.1 bt346.2).bind fun bt350 => (if (bt342.2 != bt344.2) = true then (none) else (if bt342.1 = bt344.1 then (if (bt348.2 != bt350.2) = true then (none) else (if (bt348.1 != bt350.1) = true then (none) else (if bt342.2 = true then ((impl_FactorsOf.f kj37 bt342.1).bind fun bt352 => (if bt352.2 = true then ((laws_gLists.f kj37 bt352.1 t339).bind fun t356 => (some t356)) else (none))) else (some true)))) else (none)))))))) = some r := H
      have A89 := Aside0.mk A890
      clear A890
      replace H := Option.bind_eq_some_iff.mp H
      obtain ⟨⟨t342, t343⟩, A900, H⟩ := H
      replace H : ((spec_NumberOfFactors.f kj37 t339).bind fun bt344 => ((spec_DrawIsSmooth.f l1).bind fun bt346 => ((impl_IsSmooth.f kj37 bt346.1 bt346.2).bind fun bt348 => ((spec_IsSmooth.f kj37 bt346.1 bt346.2).bind fun bt350 => (if (t343 != bt344.2) = true then (none) else (if t342 = bt344.1 then (if (bt348.2 != bt350.2) = true then (none) else (if (bt348.1 != bt350.1) = true then (none) else (if t343 = true then ((impl_FactorsOf.f kj37 t342).bind fun bt352 => (if bt352.2 = true then ((laws_gLists.f kj37 bt352.1 t339).bind fun t356 => (some t356)) else (none))) else (some true)))) else (none))))))) = some r := H
      have A90 := Aside0.mk A900
      clear A900
      replace H := Option.bind_eq_some_iff.mp H
      obtain ⟨⟨t344, t345⟩, A910, H⟩ := H
      replace H : ((spec_DrawIsSmooth.f l1).bind fun bt346 => ((impl_IsSmooth.f kj37 bt346.1 bt346.2).bind fun bt348 => ((spec_IsSmooth.f kj37 bt346.1 bt346.2).bind fun bt350 => (if (t343 != t345) = true then (none) else (if t342 = t344 then (if (bt348.2 != bt350.2) = true then (none) else (if (bt348.1 != bt350.1) = true then (none) else (if t343 = true then ((impl_FactorsOf.f kj37 t342).bind fun bt352 => (if bt352.2 = true then ((laws_gLists.f kj37 bt352.1 t339).bind fun t356 => (some t356)) else (none))) else (some true)))) else (none)))))) = some r := H
      have A91 := Aside0.mk A910
      clear A910
      replace H := Option.bind_eq_some_iff.mp H
      obtain ⟨⟨t346, t347⟩, A920, H⟩ := H
      replace H : ((impl_IsSmooth.f kj37 t346 t347).bind fun bt348 => ((spec_IsSmooth.f kj37 t346 t347).bind fun bt350 => (if (t343 != t345) = true then (none) else (if t342 = t344 then (if (bt348.2 != bt350.2) = true then (none) else (if (bt348.1 != bt350.1) = true then (none) else (if t343 = true then ((impl_FactorsOf.f kj37 t342).bind fun bt352 => (if bt352.2 = true then ((laws_gLists.f kj37 bt352.1 t339).bind fun t356 => (some t356)) else (none))) else (some true)))) else (none))))) = some r := H
      have A92 := Aside0.mk A920
      clear A920
      replace H := Option.bind_eq_some_iff.mp H
      obtain ⟨⟨t348, t349⟩, A930, H⟩ := H
      replace H : ((spec_IsSmooth.f kj37 t346 t347).bind fun bt350 => (if (t343 != t345) = true then (none) else (if t342 = t344 then (if (t349 != bt350.2) = true then (none) else (if (t348 != bt350.1) = true then (none) else (if t343 = true then ((impl_FactorsOf.f kj37 t342).bind fun bt352 => (if bt352.2 = true then ((laws_gLists.f kj37 bt352.1 t339).bind fun t356 => (some t356)) else (none))) else (some true)))) else (none)))) = some r := H
      have A93 := Aside0.mk A930
      clear A930
      replace H := Option.bind_eq_some_iff.mp H
      obtain ⟨⟨t350, t351⟩, A940, H⟩ := H
      replace H : (if (t343 != t345) = true then (none) else (if t342 = t344 then (if (t349 != t351) = true then (none) else (if (t348 != t350) = true then (none) else (if t343 = true then ((impl_FactorsOf.f kj37 t342).bind fun bt352 => (if bt352.2 = true then ((laws_gLists.f kj37 bt352.1 t339).bind fun t356 => (some t356)) else (none))) else (some true)))) else (none))) = some r := H
      have A94 := Aside0.mk A940
      clear A940
      have c95 : ¬ ((t343 != t345) = true) := fun c95 => by
       rw [if_pos c95] at H
       exact absurd H (by simp)
      rw [if_neg c95] at H
      have c95b0 : (t343 != t345) = false := by simpa using c95
      (try (have c95b1 : decide (t343 = t345) = true := by simpa using c95))
      (try (have c95b2 : (t343 == t345) = true := by simpa using c95))
      clear c95
      by_cases c96 : t342 = t344
      ·as_aux_lemma =>
       rw [if_pos c96] at H
       have c96b0 : (t342 == t344) = true := beq_iff_eq.mpr c96
       have c96b1 : (t342 != t344) = false := bne_eq_false_iff_eq.mpr c96
       clear c96
       have c97 : ¬ ((t349 != t351) = true) := fun c97 => by
        rw [if_pos c97] at H
        exact absurd H (by simp)
       rw [if_neg c97] at H
       have c97b0 : (t349 != t351) = false := by simpa using c97
       (try (have c97b1 : decide (t349 = t351) = true := by simpa using c97))
       (try (have c97b2 : (t349 == t351) = true := by simpa using c97))
       clear c97
       have c98 : ¬ ((t348 != t350) = true) := fun c98 => by
        rw [if_pos c98] at H
        exact absurd H (by simp)
       rw [if_neg c98] at H
       have c98b0 : (t348 != t350) = false := by simpa using c98
       (try (have c98b1 : decide (t348 = t350) = true := by simpa using c98))
       (try (have c98b2 : (t348 == t350) = true := by simpa using c98))
       clear c98
       by_cases c99 : t343 = true
       ·subst c99
        have H1 : ((impl_FactorsOf.f kj37 t342).bind fun bt352 => (if bt352.2 = true then ((laws_gLists.f kj37 bt352.1 t339).bind fun t356 => (some t356)) else (none))) = some r := by rw [if_pos rfl] at H; exact H
        clear H
        have H := H1
        clear H1
        replace H := Option.bind_eq_some_iff.mp H
        obtain ⟨⟨t352, t353⟩, A1000, H⟩ := H
        replace H : (if t353 = true then ((laws_gLists.f kj37 t352 t339).bind fun t356 => (some t356)) else (none)) = some r := H
        have A100 := Aside0.mk A1000
        clear A1000
        have c101 : t353 = true := Classical.byContradiction fun c101 => by
         replace c101 := Bool.eq_false_iff.mpr c101
         subst c101
         have H1 : (none) = some r := by rw [if_neg (show ¬ (false = true) by decide)] at H; exact H
         clear H
         have H := H1
         clear H1
         exact absurd H (by simp)
        subst c101
        have H1 : ((laws_gLists.f kj37 t352 t339).bind fun t356 => (some t356)) = some r := by rw [if_pos rfl] at H; exact H
        clear H
        have H := H1
        clear H1
        replace H := Option.bind_eq_some_iff.mp H
        obtain ⟨t356, A1020, H⟩ := H
        replace H : (some t356) = some r := H
        have A102 := Aside0.mk A1020
        clear A1020
        obtain rfl := Option.some.inj H
        as_aux_lemma =>
        go_wp2_with (first | (go_at_call 55; (with_reducible refine (spec_DrawNumberOfFactors.calls kj37 _ _ l1 t339 _ ?side1 ?side2 A89.out).mono ?_); (case side1 => repeat (first | exact (Kd.C_below HR1.out HB.out) | (with_reducible refine Kd.C_alloc ?_ _) | (with_reducible refine Kd.C_drewN ?_ _) | (with_reducible refine Kd.C_drew ?_))); (case side2 => exact HC1.out); rintro e w103 ⟨v340, rfl, ho0, hb⟩; have n0_ := Aside0.mk (Kd.N_lower (Kd.N_mono (ok' := fun k_ => True) ho0 (fun k_ hk_ => trivial)) (below_size (by repeat (first | (with_reducible first | exact HB.out | apply below_alloc | apply pw_below_drewN | apply below_drew1) | exact HB.out)))); have n1_ := Aside0.mk (below_step (by repeat (first | (with_reducible first | exact HB.out | apply below_alloc | apply pw_below_drewN | apply below_drew1) | exact HB.out)) hb); clear HB; have HO341 := n0_; have HB := n1_; clear n0_ n1_; (try clear hb); (try clear hb2); (try clear hk); (try clear hi); (try clear ho0); obtain ⟨Ao104, co104, eo104⟩ := Kd.N_slice HO341.out; subst eo104))
        as_aux_lemma =>
        go_wp2_with (first | (go_at_call 39; (with_reducible refine (impl_NumberOfFactors.calls kj37 _ _ t339 t342 true _ ?side1 ?side2 A90.out).mono ?_); (case side1 => repeat (first | exact (Kd.N_reads' HO341.out).2.2 | (with_reducible refine Kd.C_alloc ?_ _) | (with_reducible refine Kd.C_drewN ?_ _) | (with_reducible refine Kd.C_drew ?_))); (case side2 => exact (Kd.N_reads' HO341.out).2.1); rintro e w105 ⟨rfl, hb⟩; have n0_ := Aside0.mk (Kd.N_below (by (with_reducible repeat (first | apply Kd.N_alloc | apply Kd.N_drewN | apply Kd.N_drew)); exact HO341.out) hb); have n1_ := Aside0.mk (below_step (by repeat (first | (with_reducible first | exact HB.out | apply below_alloc | apply pw_below_drewN | apply below_drew1) | exact HB.out)) hb); clear HO341; clear HB; have HO341 := n0_; have HB := n1_; clear n0_ n1_; (try clear hb); (try clear hb2); (try clear hk); (try clear hi)))
        as_aux_lemma =>
        go_wp2_with (first | (go_at_call 37; (with_reducible refine (spec_NumberOfFactors.calls kj37 _ _ t339 t344 t345 _ ?side1 ?side2 A91.out).mono ?_); (case side1 => repeat (first | exact (Kd.N_reads' HO341.out).2.2 | (with_reducible refine Kd.C_alloc ?_ _) | (with_reducible refine Kd.C_drewN ?_ _) | (with_reducible refine Kd.C_drew ?_))); (case side2 => exact (Kd.N_reads' HO341.out).2.1); rintro e w106 ⟨rfl, hb⟩; have n0_ := Aside0.mk (Kd.N_below (by (with_reducible repeat (first | apply Kd.N_alloc | apply Kd.N_drewN | apply Kd.N_drew)); exact HO341.out) hb); have n1_ := Aside0.mk (below_step (by repeat (first | (with_reducible first | exact HB.out | apply below_alloc | apply pw_below_drewN | apply below_drew1) | exact HB.out)) hb); clear HO341; clear HB; have HO341 := n0_; have HB := n1_; clear n0_ n1_; (try clear hb); (try clear hb2); (try clear hk); (try clear hi)))
        as_aux_lemma =>
        go_wp2_with (first | (go_at_call 56; (with_reducible refine (spec_DrawIsSmooth.calls _ _ l1 t346 t347 _ ?side1 ?side2 A92.out).mono ?_); (case side1 => repeat (first | exact (Kd.C_below HR1.out HB.out) | (with_reducible refine Kd.C_alloc ?_ _) | (with_reducible refine Kd.C_drewN ?_ _) | (with_reducible refine Kd.C_drew ?_))); (case side2 => exact HC1.out); rintro e w107 ⟨rfl, hb⟩; have n0_ := Aside0.mk (Kd.N_below (by (with_reducible repeat (first | apply Kd.N_alloc | apply Kd.N_drewN | apply Kd.N_drew)); exact HO341.out) hb); have n1_ := Aside0.mk (below_step (by repeat (first | (with_reducible first | exact HB.out | apply below_alloc | apply pw_below_drewN | apply below_drew1) | exact HB.out)) hb); clear HO341; clear HB; have HO341 := n0_; have HB := n1_; clear n0_ n1_; (try clear hb); (try clear hb2); (try clear hk); (try clear hi)))
        as_aux_lemma =>
        go_wp2_with (first | (go_at_call 51; (with_reducible refine (impl_IsSmooth.calls kj37 t346 t347 t348 t349 _ A93.out).mono ?_); rintro e w108 ⟨rfl, hb⟩; have n0_ := Aside0.mk (Kd.N_below (by (with_reducible repeat (first | apply Kd.N_alloc | apply Kd.N_drewN | apply Kd.N_drew)); exact HO341.out) hb); have n1_ := Aside0.mk (below_step (by repeat (first | (with_reducible first | exact HB.out | apply below_alloc | apply pw_below_drewN | apply below_drew1) | exact HB.out)) hb); clear HO341; clear HB; have HO341 := n0_; have HB := n1_; clear n0_ n1_; (try clear hb); (try clear hb2); (try clear hk); (try clear hi)))
        as_aux_lemma =>
        go_wp2_with (first | (go_at_call 52; (with_reducible refine (spec_IsSmooth.calls kj37 t346 t347 t350 t351 _ A94.out).mono ?_); rintro e w109 ⟨rfl, hb⟩; have n0_ := Aside0.mk (Kd.N_below (by (with_reducible repeat (first | apply Kd.N_alloc | apply Kd.N_drewN | apply Kd.N_drew)); exact HO341.out) hb); have n1_ := Aside0.mk (below_step (by repeat (first | (with_reducible first | exact HB.out | apply below_alloc | apply pw_below_drewN | apply below_drew1) | exact HB.out)) hb); clear HO341; clear HB; have HO341 := n0_; have HB := n1_; clear n0_ n1_; (try clear hb); (try clear hb2); (try clear hk); (try clear hi)))
        as_aux_lemma =>
        go_wp2_with (first | (go_at_call 32; (with_reducible refine (impl_FactorsOf.calls kj37 t342 t352 true _ A100.out).mono ?_); rintro e w110 ⟨v354, rfl, ho0, hb⟩; have n0_ := Aside0.mk (Kd.N_elder' (by (with_reducible repeat (first | apply Kd.N_alloc | apply Kd.N_drewN | apply Kd.N_drew)); exact HO341.out) (by first | exact Kd.N_base ho0 | exact Kd.N_base (Kd.S_N ho0)) hb); have n1_ := Aside0.mk (Kd.N_lower (Kd.N_mono (ok' := fun k_ => some k_ ≠ (.slice Ao104 t339.length co104 : Value).ownBlock) (Kd.S_N (Kd.S_bound ho0)) (fun k_ hk_ => (Kd.fresh' (Kd.N_lt (by (with_reducible repeat (first | apply Kd.N_alloc | apply Kd.N_drewN | apply Kd.N_drew)); exact HO341.out)) k_ hk_.2.1))) (below_size (by repeat (first | (with_reducible first | exact HB.out | apply below_alloc | apply pw_below_drewN | apply below_drew1) | exact HB.out)))); have n2_ := Aside0.mk (below_step (by repeat (first | (with_reducible first | exact HB.out | apply below_alloc | apply pw_below_drewN | apply below_drew1) | exact HB.out)) hb); clear HO341; clear HB; have HO341 := n0_; have HO355 := n1_; have HB := n2_; clear n0_ n1_ n2_; (try clear hb); (try clear hb2); (try clear hk); (try clear hi); (try clear ho0); obtain ⟨Ao111, co111, eo111⟩ := Kd.N_slice HO355.out; subst eo111))
        as_aux_lemma =>
        go_wp2_with (first | (go_at_call 50; (with_reducible refine (laws_gLists.calls kj37 _ _ t352 _ _ t339 t356 _ ?side1 ?side2 ?side3 ?side4 A102.out).mono ?_); (case side1 => repeat (first | exact (Kd.N_reads' HO355.out).2.2 | (with_reducible refine Kd.C_alloc ?_ _) | (with_reducible refine Kd.C_drewN ?_ _) | (with_reducible refine Kd.C_drew ?_))); (case side2 => exact (Kd.N_reads' HO355.out).2.1); (case side3 => repeat (first | exact (Kd.N_reads' HO341.out).2.2 | (with_reducible refine Kd.C_alloc ?_ _) | (with_reducible refine Kd.C_drewN ?_ _) | (with_reducible refine Kd.C_drew ?_))); (case side4 => exact (Kd.N_reads' HO341.out).2.1); rintro e w' ⟨rfl, ⟨nd, rfl⟩⟩; (try first | exact ⟨rfl, _, World.drewN_drewN _ _ _⟩ | exact ⟨rfl, _, Eq.trans (World.drewN_drewN _ _ _) (congrArg (World.drewN _) (Nat.add_assoc _ _ _))⟩)))
        repeat (go_quiet (first | (go_at_call 55; (with_reducible refine (spec_DrawNumberOfFactors.calls kj37 _ _ l1 t339 _ ?side1 ?side2 A89.out).mono ?_); (case side1 => repeat (first | exact (Kd.C_below HR1.out HB.out) | (with_reducible refine Kd.C_alloc ?_ _) | (with_reducible refine Kd.C_drewN ?_ _) | (with_reducible refine Kd.C_drew ?_))); (case side2 => exact HC1.out); rintro e w103 ⟨v340, rfl, ho0, hb⟩; have n0_ := Aside0.mk (Kd.N_lower (Kd.N_mono (ok' := fun k_ => True) ho0 (fun k_ hk_ => trivial)) (below_size (by repeat (first | (with_reducible first | exact HB.out | apply below_alloc | apply pw_below_drewN | apply below_drew1) | exact HB.out)))); have n1_ := Aside0.mk (below_step (by repeat (first | (with_reducible first | exact HB.out | apply below_alloc | apply pw_below_drewN | apply below_drew1) | exact HB.out)) hb); clear HB; have HO341 := n0_; have HB := n1_; clear n0_ n1_; (try clear hb); (try clear hb2); (try clear hk); (try clear hi); (try clear ho0); obtain ⟨Ao104, co104, eo104⟩ := Kd.N_slice HO341.out; subst eo104) | (go_at_call 39; (with_reducible refine (impl_NumberOfFactors.calls kj37 _ _ t339 t342 true _ ?side1 ?side2 A90.out).mono ?_); (case side1 => repeat (first | exact (Kd.N_reads' HO341.out).2.2 | (with_reducible refine Kd.C_alloc ?_ _) | (with_reducible refine Kd.C_drewN ?_ _) | (with_reducible refine Kd.C_drew ?_))); (case side2 => exact (Kd.N_reads' HO341.out).2.1); rintro e w105 ⟨rfl, hb⟩; have n0_ := Aside0.mk (Kd.N_below (by (with_reducible repeat (first | apply Kd.N_alloc | apply Kd.N_drewN | apply Kd.N_drew)); exact HO341.out) hb); have n1_ := Aside0.mk (below_step (by repeat (first | (with_reducible first | exact HB.out | apply below_alloc | apply pw_below_drewN | apply below_drew1) | exact HB.out)) hb); clear HO341; clear HB; have HO341 := n0_; have HB := n1_; clear n0_ n1_; (try clear hb); (try clear hb2); (try clear hk); (try clear hi)) | (go_at_call 37; (with_reducible refine (spec_NumberOfFactors.calls kj37 _ _ t339 t344 t345 _ ?side1 ?side2 A91.out).mono ?_); (case side1 => repeat (first | exact (Kd.N_reads' HO341.out).2.2 | (with_reducible refine Kd.C_alloc ?_ _) | (with_reducible refine Kd.C_drewN ?_ _) | (with_reducible refine Kd.C_drew ?_))); (case side2 => exact (Kd.N_reads' HO341.out).2.1); rintro e w106 ⟨rfl, hb⟩; have n0_ := Aside0.mk (Kd.N_below (by (with_reducible repeat (first | apply Kd.N_alloc | apply Kd.N_drewN | apply Kd.N_drew)); exact HO341.out) hb); have n1_ := Aside0.mk (below_step (by repeat (first | (with_reducible first | exact HB.out | apply below_alloc | apply pw_below_drewN | apply below_drew1) | exact HB.out)) hb); clear HO341; clear HB; have HO341 := n0_; have HB := n1_; clear n0_ n1_; (try clear hb); (try clear hb2); (try clear hk); (try clear hi)) | (go_at_call 56; (with_reducible refine (spec_DrawIsSmooth.calls _ _ l1 t346 t347 _ ?side1 ?side2 A92.out).mono ?_); (case side1 => repeat (first | exact (Kd.C_below HR1.out HB.out) | (with_reducible refine Kd.C_alloc ?_ _) | (with_reducible refine Kd.C_drewN ?_ _) | (with_reducible refine Kd.C_drew ?_))); (case side2 => exact HC1.out); rintro e w107 ⟨rfl, hb⟩; have n0_ := Aside0.mk (Kd.N_below (by (with_reducible repeat (first | apply Kd.N_alloc | apply Kd.N_drewN | apply Kd.N_drew)); exact HO341.out) hb); have n1_ := Aside0.mk (below_step (by repeat (first | (with_reducible first | exact HB.out | apply below_alloc | apply pw_below_drewN | apply below_drew1) | exact HB.out)) hb); clear HO341; clear HB; have HO341 := n0_; have HB := n1_; clear n0_ n1_; (try clear hb); (try clear hb2); (try clear hk); (try clear hi)) | (go_at_call 51; (with_reducible refine (impl_IsSmooth.calls kj37 t346 t347 t348 t349 _ A93.out).mono ?_); rintro e w108 ⟨rfl, hb⟩; have n0_ := Aside0.mk (Kd.N_below (by (with_reducible repeat (first | apply Kd.N_alloc | apply Kd.N_drewN | apply Kd.N_drew)); exact HO341.out) hb); have n1_ := Aside0.mk (below_step (by repeat (first | (with_reducible first | exact HB.out | apply below_alloc | apply pw_below_drewN | apply below_drew1) | exact HB.out)) hb); clear HO341; clear HB; have HO341 := n0_; have HB := n1_; clear n0_ n1_; (try clear hb); (try clear hb2); (try clear hk); (try clear hi)) | (go_at_call 52; (with_reducible refine (spec_IsSmooth.calls kj37 t346 t347 t350 t351 _ A94.out).mono ?_); rintro e w109 ⟨rfl, hb⟩; have n0_ := Aside0.mk (Kd.N_below (by (with_reducible repeat (first | apply Kd.N_alloc | apply Kd.N_drewN | apply Kd.N_drew)); exact HO341.out) hb); have n1_ := Aside0.mk (below_step (by repeat (first | (with_reducible first | exact HB.out | apply below_alloc | apply pw_below_drewN | apply below_drew1) | exact HB.out)) hb); clear HO341; clear HB; have HO341 := n0_; have HB := n1_; clear n0_ n1_; (try clear hb); (try clear hb2); (try clear hk); (try clear hi)) | (go_at_call 32; (with_reducible refine (impl_FactorsOf.calls kj37 t342 t352 true _ A100.out).mono ?_); rintro e w110 ⟨v354, rfl, ho0, hb⟩; have n0_ := Aside0.mk (Kd.N_elder' (by (with_reducible repeat (first | apply Kd.N_alloc | apply Kd.N_drewN | apply Kd.N_drew)); exact HO341.out) (by first | exact Kd.N_base ho0 | exact Kd.N_base (Kd.S_N ho0)) hb); have n1_ := Aside0.mk (Kd.N_lower (Kd.N_mono (ok' := fun k_ => some k_ ≠ (.slice Ao104 t339.length co104 : Value).ownBlock) (Kd.S_N (Kd.S_bound ho0)) (fun k_ hk_ => (Kd.fresh' (Kd.N_lt (by (with_reducible repeat (first | apply Kd.N_alloc | apply Kd.N_drewN | apply Kd.N_drew)); exact HO341.out)) k_ hk_.2.1))) (below_size (by repeat (first | (with_reducible first | exact HB.out | apply below_alloc | apply pw_below_drewN | apply below_drew1) | exact HB.out)))); have n2_ := Aside0.mk (below_step (by repeat (first | (with_reducible first | exact HB.out | apply below_alloc | apply pw_below_drewN | apply below_drew1) | exact HB.out)) hb); clear HO341; clear HB; have HO341 := n0_; have HO355 := n1_; have HB := n2_; clear n0_ n1_ n2_; (try clear hb); (try clear hb2); (try clear hk); (try clear hi); (try clear ho0); obtain ⟨Ao111, co111, eo111⟩ := Kd.N_slice HO355.out; subst eo111) | (go_at_call 50; (with_reducible refine (laws_gLists.calls kj37 _ _ t352 _ _ t339 t356 _ ?side1 ?side2 ?side3 ?side4 A102.out).mono ?_); (case side1 => repeat (first | exact (Kd.N_reads' HO355.out).2.2 | (with_reducible refine Kd.C_alloc ?_ _) | (with_reducible refine Kd.C_drewN ?_ _) | (with_reducible refine Kd.C_drew ?_))); (case side2 => exact (Kd.N_reads' HO355.out).2.1); (case side3 => repeat (first | exact (Kd.N_reads' HO341.out).2.2 | (with_reducible refine Kd.C_alloc ?_ _) | (with_reducible refine Kd.C_drewN ?_ _) | (with_reducible refine Kd.C_drew ?_))); (case side4 => exact (Kd.N_reads' HO341.out).2.1); rintro e w' ⟨rfl, ⟨nd, rfl⟩⟩; (try first | exact ⟨rfl, _, World.drewN_drewN _ _ _⟩ | exact ⟨rfl, _, Eq.trans (World.drewN_drewN _ _ _) (congrArg (World.drewN _) (Nat.add_assoc _ _ _))⟩))); try go_wp2_with (first | (go_at_call 55; (with_reducible refine (spec_DrawNumberOfFactors.calls kj37 _ _ l1 t339 _ ?side1 ?side2 A89.out).mono ?_); (case side1 => repeat (first | exact (Kd.C_below HR1.out HB.out) | (with_reducible refine Kd.C_alloc ?_ _) | (with_reducible refine Kd.C_drewN ?_ _) | (with_reducible refine Kd.C_drew ?_))); (case side2 => exact HC1.out); rintro e w103 ⟨v340, rfl, ho0, hb⟩; have n0_ := Aside0.mk (Kd.N_lower (Kd.N_mono (ok' := fun k_ => True) ho0 (fun k_ hk_ => trivial)) (below_size (by repeat (first | (with_reducible first | exact HB.out | apply below_alloc | apply pw_below_drewN | apply below_drew1) | exact HB.out)))); have n1_ := Aside0.mk (below_step (by repeat (first | (with_reducible first | exact HB.out | apply below_alloc | apply pw_below_drewN | apply below_drew1) | exact HB.out)) hb); clear HB; have HO341 := n0_; have HB := n1_; clear n0_ n1_; (try clear hb); (try clear hb2); (try clear hk); (try clear hi); (try clear ho0); obtain ⟨Ao104, co104, eo104⟩ := Kd.N_slice HO341.out; subst eo104) | (go_at_call 39; (with_reducible refine (impl_NumberOfFactors.calls kj37 _ _ t339 t342 true _ ?side1 ?side2 A90.out).mono ?_); (case side1 => repeat (first | exact (Kd.N_reads' HO341.out).2.2 | (with_reducible refine Kd.C_alloc ?_ _) | (with_reducible refine Kd.C_drewN ?_ _) | (with_reducible refine Kd.C_drew ?_))); (case side2 => exact (Kd.N_reads' HO341.out).2.1); rintro e w105 ⟨rfl, hb⟩; have n0_ := Aside0.mk (Kd.N_below (by (with_reducible repeat (first | apply Kd.N_alloc | apply Kd.N_drewN | apply Kd.N_drew)); exact HO341.out) hb); have n1_ := Aside0.mk (below_step (by repeat (first | (with_reducible first | exact HB.out | apply below_alloc | apply pw_below_drewN | apply below_drew1) | exact HB.out)) hb); clear HO341; clear HB; have HO341 := n0_; have HB := n1_; clear n0_ n1_; (try clear hb); (try clear hb2); (try clear hk); (try clear hi)) | (go_at_call 37; (with_reducible refine (spec_NumberOfFactors.calls kj37 _ _ t339 t344 t345 _ ?side1 ?side2 A91.out).mono ?_); (case side1 => repeat (first | exact (Kd.N_reads' HO341.out).2.2 | (with_reducible refine Kd.C_alloc ?_ _) | (with_reducible refine Kd.C_drewN ?_ _) | (with_reducible refine Kd.C_drew ?_))); (case side2 => exact (Kd.N_reads' HO341.out).2.1); rintro e w106 ⟨rfl, hb⟩; have n0_ := Aside0.mk (Kd.N_below (by (with_reducible repeat (first | apply Kd.N_alloc | apply Kd.N_drewN | apply Kd.N_drew)); exact HO341.out) hb); have n1_ := Aside0.mk (below_step (by repeat (first | (with_reducible first | exact HB.out | apply below_alloc | apply pw_below_drewN | apply below_drew1) | exact HB.out)) hb); clear HO341; clear HB; have HO341 := n0_; have HB := n1_; clear n0_ n1_; (try clear hb); (try clear hb2); (try clear hk); (try clear hi)) | (go_at_call 56; (with_reducible refine (spec_DrawIsSmooth.calls _ _ l1 t346 t347 _ ?side1 ?side2 A92.out).mono ?_); (case side1 => repeat (first | exact (Kd.C_below HR1.out HB.out) | (with_reducible refine Kd.C_alloc ?_ _) | (with_reducible refine Kd.C_drewN ?_ _) | (with_reducible refine Kd.C_drew ?_))); (case side2 => exact HC1.out); rintro e w107 ⟨rfl, hb⟩; have n0_ := Aside0.mk (Kd.N_below (by (with_reducible repeat (first | apply Kd.N_alloc | apply Kd.N_drewN | apply Kd.N_drew)); exact HO341.out) hb); have n1_ := Aside0.mk (below_step (by repeat (first | (with_reducible first | exact HB.out | apply below_alloc | apply pw_below_drewN | apply below_drew1) | exact HB.out)) hb); clear HO341; clear HB; have HO341 := n0_; have HB := n1_; clear n0_ n1_; (try clear hb); (try clear hb2); (try clear hk); (try clear hi)) | (go_at_call 51; (with_reducible refine (impl_IsSmooth.calls kj37 t346 t347 t348 t349 _ A93.out).mono ?_); rintro e w108 ⟨rfl, hb⟩; have n0_ := Aside0.mk (Kd.N_below (by (with_reducible repeat (first | apply Kd.N_alloc | apply Kd.N_drewN | apply Kd.N_drew)); exact HO341.out) hb); have n1_ := Aside0.mk (below_step (by repeat (first | (with_reducible first | exact HB.out | apply below_alloc | apply pw_below_drewN | apply below_drew1) | exact HB.out)) hb); clear HO341; clear HB; have HO341 := n0_; have HB := n1_; clear n0_ n1_; (try clear hb); (try clear hb2); (try clear hk); (try clear hi)) | (go_at_call 52; (with_reducible refine (spec_IsSmooth.calls kj37 t346 t347 t350 t351 _ A94.out).mono ?_); rintro e w109 ⟨rfl, hb⟩; have n0_ := Aside0.mk (Kd.N_below (by (with_reducible repeat (first | apply Kd.N_alloc | apply Kd.N_drewN | apply Kd.N_drew)); exact HO341.out) hb); have n1_ := Aside0.mk (below_step (by repeat (first | (with_reducible first | exact HB.out | apply below_alloc | apply pw_below_drewN | apply below_drew1) | exact HB.out)) hb); clear HO341; clear HB; have HO341 := n0_; have HB := n1_; clear n0_ n1_; (try clear hb); (try clear hb2); (try clear hk); (try clear hi)) | (go_at_call 32; (with_reducible refine (impl_FactorsOf.calls kj37 t342 t352 true _ A100.out).mono ?_); rintro e w110 ⟨v354, rfl, ho0, hb⟩; have n0_ := Aside0.mk (Kd.N_elder' (by (with_reducible repeat (first | apply Kd.N_alloc | apply Kd.N_drewN | apply Kd.N_drew)); exact HO341.out) (by first | exact Kd.N_base ho0 | exact Kd.N_base (Kd.S_N ho0)) hb); have n1_ := Aside0.mk (Kd.N_lower (Kd.N_mono (ok' := fun k_ => some k_ ≠ (.slice Ao104 t339.length co104 : Value).ownBlock) (Kd.S_N (Kd.S_bound ho0)) (fun k_ hk_ => (Kd.fresh' (Kd.N_lt (by (with_reducible repeat (first | apply Kd.N_alloc | apply Kd.N_drewN | apply Kd.N_drew)); exact HO341.out)) k_ hk_.2.1))) (below_size (by repeat (first | (with_reducible first | exact HB.out | apply below_alloc | apply pw_below_drewN | apply below_drew1) | exact HB.out)))); have n2_ := Aside0.mk (below_step (by repeat (first | (with_reducible first | exact HB.out | apply below_alloc | apply pw_below_drewN | apply below_drew1) | exact HB.out)) hb); clear HO341; clear HB; have HO341 := n0_; have HO355 := n1_; have HB := n2_; clear n0_ n1_ n2_; (try clear hb); (try clear hb2); (try clear hk); (try clear hi); (try clear ho0); obtain ⟨Ao111, co111, eo111⟩ := Kd.N_slice HO355.out; subst eo111) | (go_at_call 50; (with_reducible refine (laws_gLists.calls kj37 _ _ t352 _ _ t339 t356 _ ?side1 ?side2 ?side3 ?side4 A102.out).mono ?_); (case side1 => repeat (first | exact (Kd.N_reads' HO355.out).2.2 | (with_reducible refine Kd.C_alloc ?_ _) | (with_reducible refine Kd.C_drewN ?_ _) | (with_reducible refine Kd.C_drew ?_))); (case side2 => exact (Kd.N_reads' HO355.out).2.1); (case side3 => repeat (first | exact (Kd.N_reads' HO341.out).2.2 | (with_reducible refine Kd.C_alloc ?_ _) | (with_reducible refine Kd.C_drewN ?_ _) | (with_reducible refine Kd.C_drew ?_))); (case side4 => exact (Kd.N_reads' HO341.out).2.1); rintro e w' ⟨rfl, ⟨nd, rfl⟩⟩; (try first | exact ⟨rfl, _, World.drewN_drewN _ _ _⟩ | exact ⟨rfl, _, Eq.trans (World.drewN_drewN _ _ _) (congrArg (World.drewN _) (Nat.add_assoc _ _ _))⟩))))
        go_ret
        exact ⟨by first | rfl | (simp [errW_none, errW_some] <;> rfl) | (simp [*, errW_none, errW_some] <;> rfl), by repeat (first | (with_reducible first | exact HB.out | apply below_alloc | apply pw_below_drewN | apply below_drew1) | exact HB.out)⟩
       ·replace c99 := Bool.eq_false_iff.mpr c99
        subst c99
        have H1 : (some true) = some r := by rw [if_neg (show ¬ (false = true) by decide)] at H; exact H
        clear H
        have H := H1
        clear H1
        obtain rfl := Option.some.inj H
        as_aux_lemma =>
        go_wp2_with (first | (go_at_call 55; (with_reducible refine (spec_DrawNumberOfFactors.calls kj37 _ _ l1 t339 _ ?side1 ?side2 A89.out).mono ?_); (case side1 => repeat (first | exact (Kd.C_below HR1.out HB.out) | (with_reducible refine Kd.C_alloc ?_ _) | (with_reducible refine Kd.C_drewN ?_ _) | (with_reducible refine Kd.C_drew ?_))); (case side2 => exact HC1.out); rintro e w112 ⟨v340, rfl, ho0, hb⟩; have n0_ := Aside0.mk (Kd.N_lower (Kd.N_mono (ok' := fun k_ => True) ho0 (fun k_ hk_ => trivial)) (below_size (by repeat (first | (with_reducible first | exact HB.out | apply below_alloc | apply pw_below_drewN | apply below_drew1) | exact HB.out)))); have n1_ := Aside0.mk (below_step (by repeat (first | (with_reducible first | exact HB.out | apply below_alloc | apply pw_below_drewN | apply below_drew1) | exact HB.out)) hb); clear HB; have HO341 := n0_; have HB := n1_; clear n0_ n1_; (try clear hb); (try clear hb2); (try clear hk); (try clear hi); (try clear ho0); obtain ⟨Ao113, co113, eo113⟩ := Kd.N_slice HO341.out; subst eo113))
        as_aux_lemma =>
        go_wp2_with (first | (go_at_call 39; (with_reducible refine (impl_NumberOfFactors.calls kj37 _ _ t339 t342 false _ ?side1 ?side2 A90.out).mono ?_); (case side1 => repeat (first | exact (Kd.N_reads' HO341.out).2.2 | (with_reducible refine Kd.C_alloc ?_ _) | (with_reducible refine Kd.C_drewN ?_ _) | (with_reducible refine Kd.C_drew ?_))); (case side2 => exact (Kd.N_reads' HO341.out).2.1); rintro e w114 ⟨rfl, hb⟩; have n0_ := Aside0.mk (Kd.N_below (by (with_reducible repeat (first | apply Kd.N_alloc | apply Kd.N_drewN | apply Kd.N_drew)); exact HO341.out) hb); have n1_ := Aside0.mk (below_step (by repeat (first | (with_reducible first | exact HB.out | apply below_alloc | apply pw_below_drewN | apply below_drew1) | exact HB.out)) hb); clear HO341; clear HB; have HO341 := n0_; have HB := n1_; clear n0_ n1_; (try clear hb); (try clear hb2); (try clear hk); (try clear hi)))
        as_aux_lemma =>
        go_wp2_with (first | (go_at_call 37; (with_reducible refine (spec_NumberOfFactors.calls kj37 _ _ t339 t344 t345 _ ?side1 ?side2 A91.out).mono ?_); (case side1 => repeat (first | exact (Kd.N_reads' HO341.out).2.2 | (with_reducible refine Kd.C_alloc ?_ _) | (with_reducible refine Kd.C_drewN ?_ _) | (with_reducible refine Kd.C_drew ?_))); (case side2 => exact (Kd.N_reads' HO341.out).2.1); rintro e w115 ⟨rfl, hb⟩; have n0_ := Aside0.mk (Kd.N_below (by (with_reducible repeat (first | apply Kd.N_alloc | apply Kd.N_drewN | apply Kd.N_drew)); exact HO341.out) hb); have n1_ := Aside0.mk (below_step (by repeat (first | (with_reducible first | exact HB.out | apply below_alloc | apply pw_below_drewN | apply below_drew1) | exact HB.out)) hb); clear HO341; clear HB; have HO341 := n0_; have HB := n1_; clear n0_ n1_; (try clear hb); (try clear hb2); (try clear hk); (try clear hi)))
        as_aux_lemma =>
        go_wp2_with (first | (go_at_call 56; (with_reducible refine (spec_DrawIsSmooth.calls _ _ l1 t346 t347 _ ?side1 ?side2 A92.out).mono ?_); (case side1 => repeat (first | exact (Kd.C_below HR1.out HB.out) | (with_reducible refine Kd.C_alloc ?_ _) | (with_reducible refine Kd.C_drewN ?_ _) | (with_reducible refine Kd.C_drew ?_))); (case side2 => exact HC1.out); rintro e w116 ⟨rfl, hb⟩; have n0_ := Aside0.mk (Kd.N_below (by (with_reducible repeat (first | apply Kd.N_alloc | apply Kd.N_drewN | apply Kd.N_drew)); exact HO341.out) hb); have n1_ := Aside0.mk (below_step (by repeat (first | (with_reducible first | exact HB.out | apply below_alloc | apply pw_below_drewN | apply below_drew1) | exact HB.out)) hb); clear HO341; clear HB; have HO341 := n0_; have HB := n1_; clear n0_ n1_; (try clear hb); (try clear hb2); (try clear hk); (try clear hi)))
        as_aux_lemma =>
        go_wp2_with (first | (go_at_call 51; (with_reducible refine (impl_IsSmooth.calls kj37 t346 t347 t348 t349 _ A93.out).mono ?_); rintro e w117 ⟨rfl, hb⟩; have n0_ := Aside0.mk (Kd.N_below (by (with_reducible repeat (first | apply Kd.N_alloc | apply Kd.N_drewN | apply Kd.N_drew)); exact HO341.out) hb); have n1_ := Aside0.mk (below_step (by repeat (first | (with_reducible first | exact HB.out | apply below_alloc | apply pw_below_drewN | apply below_drew1) | exact HB.out)) hb); clear HO341; clear HB; have HO341 := n0_; have HB := n1_; clear n0_ n1_; (try clear hb); (try clear hb2); (try clear hk); (try clear hi)))
        as_aux_lemma =>
        go_wp2_with (first | (go_at_call 52; (with_reducible refine (spec_IsSmooth.calls kj37 t346 t347 t350 t351 _ A94.out).mono ?_); rintro e w118 ⟨rfl, hb⟩; have n0_ := Aside0.mk (Kd.N_below (by (with_reducible repeat (first | apply Kd.N_alloc | apply Kd.N_drewN | apply Kd.N_drew)); exact HO341.out) hb); have n1_ := Aside0.mk (below_step (by repeat (first | (with_reducible first | exact HB.out | apply below_alloc | apply pw_below_drewN | apply below_drew1) | exact HB.out)) hb); clear HO341; clear HB; have HO341 := n0_; have HB := n1_; clear n0_ n1_; (try clear hb); (try clear hb2); (try clear hk); (try clear hi)))
        repeat (go_quiet (first | (go_at_call 55; (with_reducible refine (spec_DrawNumberOfFactors.calls kj37 _ _ l1 t339 _ ?side1 ?side2 A89.out).mono ?_); (case side1 => repeat (first | exact (Kd.C_below HR1.out HB.out) | (with_reducible refine Kd.C_alloc ?_ _) | (with_reducible refine Kd.C_drewN ?_ _) | (with_reducible refine Kd.C_drew ?_))); (case side2 => exact HC1.out); rintro e w112 ⟨v340, rfl, ho0, hb⟩; have n0_ := Aside0.mk (Kd.N_lower (Kd.N_mono (ok' := fun k_ => True) ho0 (fun k_ hk_ => trivial)) (below_size (by repeat (first | (with_reducible first | exact HB.out | apply below_alloc | apply pw_below_drewN | apply below_drew1) | exact HB.out)))); have n1_ := Aside0.mk (below_step (by repeat (first | (with_reducible first | exact HB.out | apply below_alloc | apply pw_below_drewN | apply below_drew1) | exact HB.out)) hb); clear HB; have HO341 := n0_; have HB := n1_; clear n0_ n1_; (try clear hb); (try clear hb2); (try clear hk); (try clear hi); (try clear ho0); obtain ⟨Ao113, co113, eo113⟩ := Kd.N_slice HO341.out; subst eo113) | (go_at_call 39; (with_reducible refine (impl_NumberOfFactors.calls kj37 _ _ t339 t342 false _ ?side1 ?side2 A90.out).mono ?_); (case side1 => repeat (first | exact (Kd.N_reads' HO341.out).2.2 | (with_reducible refine Kd.C_alloc ?_ _) | (with_reducible refine Kd.C_drewN ?_ _) | (with_reducible refine Kd.C_drew ?_))); (case side2 => exact (Kd.N_reads' HO341.out).2.1); rintro e w114 ⟨rfl, hb⟩; have n0_ := Aside0.mk (Kd.N_below (by (with_reducible repeat (first | apply Kd.N_alloc | apply Kd.N_drewN | apply Kd.N_drew)); exact HO341.out) hb); have n1_ := Aside0.mk (below_step (by repeat (first | (with_reducible first | exact HB.out | apply below_alloc | apply pw_below_drewN | apply below_drew1) | exact HB.out)) hb); clear HO341; clear HB; have HO341 := n0_; have HB := n1_; clear n0_ n1_; (try clear hb); (try clear hb2); (try clear hk); (try clear hi)) | (go_at_call 37; (with_reducible refine (spec_NumberOfFactors.calls kj37 _ _ t339 t344 t345 _ ?side1 ?side2 A91.out).mono ?_); (case side1 => repeat (first | exact (Kd.N_reads' HO341.out).2.2 | (with_reducible refine Kd.C_alloc ?_ _) | (with_reducible refine Kd.C_drewN ?_ _) | (with_reducible refine Kd.C_drew ?_))); (case side2 => exact (Kd.N_reads' HO341.out).2.1); rintro e w115 ⟨rfl, hb⟩; have n0_ := Aside0.mk (Kd.N_below (by (with_reducible repeat (first | apply Kd.N_alloc | apply Kd.N_drewN | apply Kd.N_drew)); exact HO341.out) hb); have n1_ := Aside0.mk (below_step (by repeat (first | (with_reducible first | exact HB.out | apply below_alloc | apply pw_below_drewN | apply below_drew1) | exact HB.out)) hb); clear HO341; clear HB; have HO341 := n0_; have HB := n1_; clear n0_ n1_; (try clear hb); (try clear hb2); (try clear hk); (try clear hi)) | (go_at_call 56; (with_reducible refine (spec_DrawIsSmooth.calls _ _ l1 t346 t347 _ ?side1 ?side2 A92.out).mono ?_); (case side1 => repeat (first | exact (Kd.C_below HR1.out HB.out) | (with_reducible refine Kd.C_alloc ?_ _) | (with_reducible refine Kd.C_drewN ?_ _) | (with_reducible refine Kd.C_drew ?_))); (case side2 => exact HC1.out); rintro e w116 ⟨rfl, hb⟩; have n0_ := Aside0.mk (Kd.N_below (by (with_reducible repeat (first | apply Kd.N_alloc | apply Kd.N_drewN | apply Kd.N_drew)); exact HO341.out) hb); have n1_ := Aside0.mk (below_step (by repeat (first | (with_reducible first | exact HB.out | apply below_alloc | apply pw_below_drewN | apply below_drew1) | exact HB.out)) hb); clear HO341; clear HB; have HO341 := n0_; have HB := n1_; clear n0_ n1_; (try clear hb); (try clear hb2); (try clear hk); (try clear hi)) | (go_at_call 51; (with_reducible refine (impl_IsSmooth.calls kj37 t346 t347 t348 t349 _ A93.out).mono ?_); rintro e w117 ⟨rfl, hb⟩; have n0_ := Aside0.mk (Kd.N_below (by (with_reducible repeat (first | apply Kd.N_alloc | apply Kd.N_drewN | apply Kd.N_drew)); exact HO341.out) hb); have n1_ := Aside0.mk (below_step (by repeat (first | (with_reducible first | exact HB.out | apply below_alloc | apply pw_below_drewN | apply below_drew1) | exact HB.out)) hb); clear HO341; clear HB; have HO341 := n0_; have HB := n1_; clear n0_ n1_; (try clear hb); (try clear hb2); (try clear hk); (try clear hi)) | (go_at_call 52; (with_reducible refine (spec_IsSmooth.calls kj37 t346 t347 t350 t351 _ A94.out).mono ?_); rintro e w118 ⟨rfl, hb⟩; have n0_ := Aside0.mk (Kd.N_below (by (with_reducible repeat (first | apply Kd.N_alloc | apply Kd.N_drewN | apply Kd.N_drew)); exact HO341.out) hb); have n1_ := Aside0.mk (below_step (by repeat (first | (with_reducible first | exact HB.out | apply below_alloc | apply pw_below_drewN | apply below_drew1) | exact HB.out)) hb); clear HO341; clear HB; have HO341 := n0_; have HB := n1_; clear n0_ n1_; (try clear hb); (try clear hb2); (try clear hk); (try clear hi))); try go_wp2_with (first | (go_at_call 55; (with_reducible refine (spec_DrawNumberOfFactors.calls kj37 _ _ l1 t339 _ ?side1 ?side2 A89.out).mono ?_); (case side1 => repeat (first | exact (Kd.C_below HR1.out HB.out) | (with_reducible refine Kd.C_alloc ?_ _) | (with_reducible refine Kd.C_drewN ?_ _) | (with_reducible refine Kd.C_drew ?_))); (case side2 => exact HC1.out); rintro e w112 ⟨v340, rfl, ho0, hb⟩; have n0_ := Aside0.mk (Kd.N_lower (Kd.N_mono (ok' := fun k_ => True) ho0 (fun k_ hk_ => trivial)) (below_size (by repeat (first | (with_reducible first | exact HB.out | apply below_alloc | apply pw_below_drewN | apply below_drew1) | exact HB.out)))); have n1_ := Aside0.mk (below_step (by repeat (first | (with_reducible first | exact HB.out | apply below_alloc | apply pw_below_drewN | apply below_drew1) | exact HB.out)) hb); clear HB; have HO341 := n0_; have HB := n1_; clear n0_ n1_; (try clear hb); (try clear hb2); (try clear hk); (try clear hi); (try clear ho0); obtain ⟨Ao113, co113, eo113⟩ := Kd.N_slice HO341.out; subst eo113) | (go_at_call 39; (with_reducible refine (impl_NumberOfFactors.calls kj37 _ _ t339 t342 false _ ?side1 ?side2 A90.out).mono ?_); (case side1 => repeat (first | exact (Kd.N_reads' HO341.out).2.2 | (with_reducible refine Kd.C_alloc ?_ _) | (with_reducible refine Kd.C_drewN ?_ _) | (with_reducible refine Kd.C_drew ?_))); (case side2 => exact (Kd.N_reads' HO341.out).2.1); rintro e w114 ⟨rfl, hb⟩; have n0_ := Aside0.mk (Kd.N_below (by (with_reducible repeat (first | apply Kd.N_alloc | apply Kd.N_drewN | apply Kd.N_drew)); exact HO341.out) hb); have n1_ := Aside0.mk (below_step (by repeat (first | (with_reducible first | exact HB.out | apply below_alloc | apply pw_below_drewN | apply below_drew1) | exact HB.out)) hb); clear HO341; clear HB; have HO341 := n0_; have HB := n1_; clear n0_ n1_; (try clear hb); (try clear hb2); (try clear hk); (try clear hi)) | (go_at_call 37; (with_reducible refine (spec_NumberOfFactors.calls kj37 _ _ t339 t344 t345 _ ?side1 ?side2 A91.out).mono ?_); (case side1 => repeat (first | exact (Kd.N_reads' HO341.out).2.2 | (with_reducible refine Kd.C_alloc ?_ _) | (with_reducible refine Kd.C_drewN ?_ _) | (with_reducible refine Kd.C_drew ?_))); (case side2 => exact (Kd.N_reads' HO341.out).2.1); rintro e w115 ⟨rfl, hb⟩; have n0_ := Aside0.mk (Kd.N_below (by (with_reducible repeat (first | apply Kd.N_alloc | apply Kd.N_drewN | apply Kd.N_drew)); exact HO341.out) hb); have n1_ := Aside0.mk (below_step (by repeat (first | (with_reducible first | exact HB.out | apply below_alloc | apply pw_below_drewN | apply below_drew1) | exact HB.out)) hb); clear HO341; clear HB; have HO341 := n0_; have HB := n1_; clear n0_ n1_; (try clear hb); (try clear hb2); (try clear hk); (try clear hi)) | (go_at_call 56; (with_reducible refine (spec_DrawIsSmooth.calls _ _ l1 t346 t347 _ ?side1 ?side2 A92.out).mono ?_); (case side1 => repeat (first | exact (Kd.C_below HR1.out HB.out) | (with_reducible refine Kd.C_alloc ?_ _) | (with_reducible refine Kd.C_drewN ?_ _) | (with_reducible refine Kd.C_drew ?_))); (case side2 => exact HC1.out); rintro e w116 ⟨rfl, hb⟩; have n0_ := Aside0.mk (Kd.N_below (by (with_reducible repeat (first | apply Kd.N_alloc | apply Kd.N_drewN | apply Kd.N_drew)); exact HO341.out) hb); have n1_ := Aside0.mk (below_step (by repeat (first | (with_reducible first | exact HB.out | apply below_alloc | apply pw_below_drewN | apply below_drew1) | exact HB.out)) hb); clear HO341; clear HB; have HO341 := n0_; have HB := n1_; clear n0_ n1_; (try clear hb); (try clear hb2); (try clear hk); (try clear hi)) | (go_at_call 51; (with_reducible refine (impl_IsSmooth.calls kj37 t346 t347 t348 t349 _ A93.out).mono ?_); rintro e w117 ⟨rfl, hb⟩; have n0_ := Aside0.mk (Kd.N_below (by (with_reducible repeat (first | apply Kd.N_alloc | apply Kd.N_drewN | apply Kd.N_drew)); exact HO341.out) hb); have n1_ := Aside0.mk (below_step (by repeat (first | (with_reducible first | exact HB.out | apply below_alloc | apply pw_below_drewN | apply below_drew1) | exact HB.out)) hb); clear HO341; clear HB; have HO341 := n0_; have HB := n1_; clear n0_ n1_; (try clear hb); (try clear hb2); (try clear hk); (try clear hi)) | (go_at_call 52; (with_reducible refine (spec_IsSmooth.calls kj37 t346 t347 t350 t351 _ A94.out).mono ?_); rintro e w118 ⟨rfl, hb⟩; have n0_ := Aside0.mk (Kd.N_below (by (with_reducible repeat (first | apply Kd.N_alloc | apply Kd.N_drewN | apply Kd.N_drew)); exact HO341.out) hb); have n1_ := Aside0.mk (below_step (by repeat (first | (with_reducible first | exact HB.out | apply below_alloc | apply pw_below_drewN | apply below_drew1) | exact HB.out)) hb); clear HO341; clear HB; have HO341 := n0_; have HB := n1_; clear n0_ n1_; (try clear hb); (try clear hb2); (try clear hk); (try clear hi))))
        go_ret
        exact ⟨by first | rfl | (simp [errW_none, errW_some] <;> rfl) | (simp [*, errW_none, errW_some] <;> rfl), by repeat (first | (with_reducible first | exact HB.out | apply below_alloc | apply pw_below_drewN | apply below_drew1) | exact HB.out)⟩
      ·as_aux_lemma =>
       rw [if_neg c96] at H
       exact absurd H (by simp)

/-- THE ONE PURE STATEMENT of laws_FnFactorsTold: yours. -/
def laws_FnFactorsTold.Pure : Prop := ∀ (l0 : List Int) (l1 : List Int), l0.length ≤ maxLen → l0.length * 1 ≤ 140737488351232 → (∀ x ∈ l0, (Lit.int .u8 x).wf = true) → l1.length ≤ maxLen → l1.length * 1 ≤ 140737488351232 → (∀ x ∈ l1, (Lit.int .u8 x).wf = true) → ∃ k, laws_FnFactorsTold.f k l0 l1 = some true
theorem laws_FnFactorsTold.walk (P : laws_FnFactorsTold.Pure) (a0 : Option Addr) (len0 cap0 : Nat) (z0 : List Int) (a1 : Option Addr) (len1 cap1 : Nat) (z1 : List Int) (w : World) (w0 : (a0 = none ∧ len0 = 0 ∧ cap0 = 0 ∧ z0 = []) ∨ ∃ x, a0 = some x ∧ len0 ≤ cap0 ∧ cap0 ≤ maxLen ∧ z0.length = cap0 ∧ (∀ i, i < z0.length → w.cell? (x.add i) = some (.int .u8 (z0.getD i 0))) ∧ ∀ n ∈ z0, (Lit.int .u8 n).wf = true) (y0 : len0 * 1 ≤ 140737488351232) (w1 : (a1 = none ∧ len1 = 0 ∧ cap1 = 0 ∧ z1 = []) ∨ ∃ x, a1 = some x ∧ len1 ≤ cap1 ∧ cap1 ≤ maxLen ∧ z1.length = cap1 ∧ (∀ i, i < z1.length → w.cell? (x.add i) = some (.int .u8 (z1.getD i 0))) ∧ ∀ n ∈ z1, (Lit.int .u8 n).wf = true) (y1 : len1 * 1 ≤ 140737488351232) :
  Calls Try.prog 13 #[.slice a0 len0 cap0, .slice a1 len1 cap1] w fun e w' => e = .returned (.bool true) ∧ Below w.heap.size w w' := by
 obtain ⟨l0, rfl, hr0, hm0, hw0, hc0⟩ := ReadsInt.ofRowC w0
 obtain ⟨l1, rfl, hr1, hm1, hw1, hc1⟩ := ReadsInt.ofRowC w1
 obtain ⟨k, h⟩ := P l0 l1 hm0 y0 hw0 hm1 y1 hw1
 refine (laws_FnFactorsTold.calls k _ _ l0 _ _ l1 true w (Kd.C_of_reads (d := (0 : Int)) (h1 := fun _ => rfl) hr0) hc0 (Kd.C_of_reads (d := (0 : Int)) (h1 := fun _ => rfl) hr1) hc1 h).mono ?_
 rintro e w' ⟨rfl, hd⟩
 exact ⟨rfl, hd⟩

end Go.Proofs.Ytgoldeagghadhaa.P
