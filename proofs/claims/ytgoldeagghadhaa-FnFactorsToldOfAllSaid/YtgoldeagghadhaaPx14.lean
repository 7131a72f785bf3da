-- Printed for this claim by a program of this session, out of the translation. Lean checks it.
import Derived.Test.YtgoldeagghadhaaPx0
import Derived.Test.YtgoldeagghadhaaPx2
import Derived.Test.YtgoldeagghadhaaPx3
import Derived.Test.YtgoldeagghadhaaPx4
import Derived.Test.YtgoldeagghadhaaPx7
import Derived.Test.YtgoldeagghadhaaPx8
import Derived.Test.YtgoldeagghadhaaPx9
import Derived.Test.YtgoldeagghadhaaPx11
import Derived.Test.YtgoldeagghadhaaPx12
import Derived.Test.YtgoldeagghadhaaPx13
-- SLIM
namespace Go.Proofs.Ytgoldeagghadhaa.P
open Go.RowKit Go.Proofs.YtgoldeagghadhaaW.PrintWords Go.Proofs.YtgoldeagghadhaaW.PrintLast Go.Proofs.YtgoldeagghadhaaW.PrintMore
attribute [local go_sem] max2_int min2_int max_two min_two max_three min_three max_four min_four   -- for this text's walks alone
set_option linter.unusedVariables false
set_option linter.unusedSimpArgs false

/-! ### laws_FnFactorsToldOfAll: function 12 -/
mutual
def laws_FnFactorsToldOfAll.j0 : Nat → Int → List (List Int) → Int → Int → List (List Int) → Bool → Int → Int → Bool → Bool → Bool → Option (Bool)
 | 0, _, _, _, _, _, _, _, _, _, _, _ => none
 | k + 1, x0, x1, x2, x3, x9, x10, x13, x17, x18, x21, x146 => if x146 = true then (none) else (if x10 = true then ((impl_NumberOfFactors.f k x9).bind fun bt213 => (if bt213.2 = true then (if bt213.1 = x0 then (if (x9.length : Int) = 1 then (if 0 < (x9.length : Int) then (if 1 < ((rd_L1 x9 0).length : Int) then (if (x21 != ((rd (rd_L1 x9 0) 1) == 1)) = true then (none) else (if x13 = 0 then (none) else (if (Int.tmod x0 x13) = 0 then (if x18 = true then (if 0 < ((rd_L1 x9 0).length : Int) then (if x17 = (rd (rd_L1 x9 0) 0) then (if x17 = 0 then (none) else (laws_FnFactorsToldOfAll.j1 k x0 x1 x2 x3 x9 x13 ((Int.tmod x0 x17) != 0))) else (none)) else (none)) else (laws_FnFactorsToldOfAll.j1 k x0 x1 x2 x3 x9 x13 false)) else (none)))) else (none)) else (none)) else (if (x21 != false) = true then (none) else (if x13 = 0 then (none) else (if (Int.tmod x0 x13) = 0 then (if x18 = true then (if 0 < (x9.length : Int) then (if 0 < ((rd_L1 x9 0).length : Int) then (if x17 = (rd (rd_L1 x9 0) 0) then (if x17 = 0 then (none) else (laws_FnFactorsToldOfAll.j1 k x0 x1 x2 x3 x9 x13 ((Int.tmod x0 x17) != 0))) else (none)) else (none)) else (none)) else (laws_FnFactorsToldOfAll.j1 k x0 x1 x2 x3 x9 x13 false)) else (none))))) else (none)) else (none))) else (laws_FnFactorsToldOfAll.j3 k x1 x2 x3))
def laws_FnFactorsToldOfAll.j3 : Nat → List (List Int) → Int → Int → Option (Bool)
 | 0, _, _, _ => none
 | k + 1, x1, x2, x3 => (impl_NumberOfFactors.f k x1).bind fun bt234 => ((spec_NumberOfFactors.f k x1).bind fun bt236 => ((impl_IsSmooth.f k x2 x3).bind fun bt238 => ((spec_IsSmooth.f k x2 x3).bind fun bt240 => (if (bt234.2 != bt236.2) = true then (none) else (if bt234.1 = bt236.1 then (if (bt238.2 != bt240.2) = true then (none) else (if (bt238.1 != bt240.1) = true then (none) else (if bt234.2 = true then ((impl_FactorsOf.f k bt234.1).bind fun bt242 => (if bt242.2 = true then ((laws_gLists.f k bt242.1 x1).bind fun t246 => (some t246)) else (none))) else (some true)))) else (none))))))
def laws_FnFactorsToldOfAll.j1 : Nat → Int → List (List Int) → Int → Int → List (List Int) → Int → Bool → Option (Bool)
 | 0, _, _, _, _, _, _, _ => none
 | k + 1, x0, x1, x2, x3, x9, x13, x198 => if x198 = true then (none) else (laws_FnFactorsToldOfAll.l0 k x0 x1 x2 x3 x9 x13 1 x9 (x9.length : Int) 0)
def laws_FnFactorsToldOfAll.l0 : Nat → Int → List (List Int) → Int → Int → List (List Int) → Int → Int → List (List Int) → Int → Int → Option (Bool)
 | 0, _, _, _, _, _, _, _, _, _, _ => none
 | k + 1, x0, x1, x2, x3, x9, x13, x27, x199, x200, x201 => if x201 < x200 then (if 0 ≤ x201 then (if x201 < (x199.length : Int) then (if 0 < ((rd_L1 x199 x201).length : Int) then ((impl_IsPrime.f k (rd (rd_L1 x199 x201) 0)).bind fun bt223 => ((impl_IsSmooth.f k x0 (rd (rd_L1 x199 x201) 0)).bind fun bt226 => (if ((rd_L1 x199 x201).length : Int) = 2 then (if bt223.2 = true then (if bt223.1 = true then (if 1 < ((rd_L1 x199 x201).length : Int) then (if (rd (rd_L1 x199 x201) 1) < 1 then (none) else (if x201 > 0 then (if 0 ≤ (wrap64 (x201 - 1)) then (if (wrap64 (x201 - 1)) < (x9.length : Int) then (if 0 < ((rd_L1 x9 (wrap64 (x201 - 1))).length : Int) then (if (rd (rd_L1 x9 (wrap64 (x201 - 1))) 0) ≥ (rd (rd_L1 x199 x201) 0) then (none) else (if bt226.2 = true then (if (bt226.1 != (x201 == (wrap64 ((x9.length : Int) - 1)))) = true then (none) else (laws_FnFactorsToldOfAll.l0 k x0 x1 x2 x3 x9 x13 (wrap64 (x27 * (rd (rd_L1 x199 x201) 0))) x199 x200 (wrap64 (x201 + 1)))) else (none))) else (none)) else (none)) else (none)) else (if bt226.2 = true then (if (bt226.1 != (x201 == (wrap64 ((x9.length : Int) - 1)))) = true then (none) else (laws_FnFactorsToldOfAll.l0 k x0 x1 x2 x3 x9 x13 (wrap64 (x27 * (rd (rd_L1 x199 x201) 0))) x199 x200 (wrap64 (x201 + 1)))) else (none)))) else (none)) else (none)) else (none)) else (none)))) else (none)) else (none)) else (none)) else (if x27 = x13 then (laws_FnFactorsToldOfAll.j3 k x1 x2 x3) else (none))
end
def laws_FnFactorsToldOfAll.f (k : Nat) (a0 : Int) (l1 : List (List Int)) (a2 : Int) (a3 : Int) : Option (Bool) := if (l1.length : Int) > 10000 then (some true) else ((impl_FactorsOf.f k a0).bind fun bt192 => ((spec_FactorsOf.f k a0).bind fun bt196 => ((impl_RadicalOf.f k a0).bind fun bt200 => ((spec_RadicalOf.f k a0).bind fun bt202 => ((impl_LeastFactor.f k a0).bind fun bt204 => ((spec_LeastFactor.f k a0).bind fun bt206 => ((impl_IsPrime.f k a0).bind fun bt208 => ((spec_IsPrime.f k a0).bind fun bt210 => (if (bt192.2 != bt196.2) = true then (none) else ((laws_gLists.f k bt192.1 bt196.1).bind fun t212 => (if t212 = true then (if (bt200.2 != bt202.2) = true then (none) else (if bt200.1 = bt202.1 then (if (bt204.2 != bt206.2) = true then (none) else (if bt204.1 = bt206.1 then (if (bt208.2 != bt210.2) = true then (none) else (if (bt208.1 != bt210.1) = true then (none) else (if (bt200.2 != bt192.2) = true then (none) else (if bt192.2 = true then (if (bt204.2 != (decide (a0 > 1))) = true then (none) else (laws_FnFactorsToldOfAll.j0 k a0 l1 a2 a3 bt192.1 bt192.2 bt200.1 bt204.1 bt204.2 bt208.1 (!bt208.2))) else (if (bt204.2 != false) = true then (none) else (laws_FnFactorsToldOfAll.j0 k a0 l1 a2 a3 bt192.1 bt192.2 bt200.1 bt204.1 bt204.2 bt208.1 false)))))) else (none))) else (none))) else (none))))))))))))
theorem laws_FnFactorsToldOfAll.mono_l : ∀ k, (∀ y0 y1 y2 y3 y4 y5 y6 y7 y8 y9 y10, LeO (laws_FnFactorsToldOfAll.j0 k y0 y1 y2 y3 y4 y5 y6 y7 y8 y9 y10) (laws_FnFactorsToldOfAll.j0 (k + 1) y0 y1 y2 y3 y4 y5 y6 y7 y8 y9 y10)) ∧ (∀ y0 y1 y2, LeO (laws_FnFactorsToldOfAll.j3 k y0 y1 y2) (laws_FnFactorsToldOfAll.j3 (k + 1) y0 y1 y2)) ∧ (∀ y0 y1 y2 y3 y4 y5 y6, LeO (laws_FnFactorsToldOfAll.j1 k y0 y1 y2 y3 y4 y5 y6) (laws_FnFactorsToldOfAll.j1 (k + 1) y0 y1 y2 y3 y4 y5 y6)) ∧ (∀ y0 y1 y2 y3 y4 y5 y6 y7 y8 y9, LeO (laws_FnFactorsToldOfAll.l0 k y0 y1 y2 y3 y4 y5 y6 y7 y8 y9) (laws_FnFactorsToldOfAll.l0 (k + 1) y0 y1 y2 y3 y4 y5 y6 y7 y8 y9))
 | 0 => ⟨fun _ _ _ _ _ _ _ _ _ _ _ r h => by simp [laws_FnFactorsToldOfAll.j0] at h, fun _ _ _ r h => by simp [laws_FnFactorsToldOfAll.j3] at h, fun _ _ _ _ _ _ _ r h => by simp [laws_FnFactorsToldOfAll.j1] at h, fun _ _ _ _ _ _ _ _ _ _ r h => by simp [laws_FnFactorsToldOfAll.l0] at h⟩
 | k + 1 => by
  obtain ⟨ih0, ih1, ih2, ih3⟩ := laws_FnFactorsToldOfAll.mono_l k
  refine ⟨?_, ?_, ?_, ?_⟩
  ·intro y0 y1 y2 y3 y4 y5 y6 y7 y8 y9 y10
   unfold laws_FnFactorsToldOfAll.j0
   repeat' first
   | (with_reducible exact ih0 _ _ _ _ _ _ _ _ _ _ _)
   | (with_reducible exact ih1 _ _ _)
   | (with_reducible exact ih2 _ _ _ _ _ _ _)
   | (with_reducible exact ih3 _ _ _ _ _ _ _ _ _ _)
   | (with_reducible exact impl_FactorsOf.mono _ _)
   | (with_reducible exact impl_IsPrime.mono _ _)
   | (with_reducible exact impl_IsSmooth.mono _ _ _)
   | (with_reducible exact impl_LeastFactor.mono _ _)
   | (with_reducible exact impl_NumberOfFactors.mono _ _)
   | (with_reducible exact impl_RadicalOf.mono _ _)
   | (with_reducible exact laws_gLists.mono _ _ _)
   | (with_reducible exact spec_FactorsOf.mono _ _)
   | (with_reducible exact spec_IsPrime.mono _ _)
   | (with_reducible exact spec_IsSmooth.mono _ _ _)
   | (with_reducible exact spec_LeastFactor.mono _ _)
   | (with_reducible exact spec_NumberOfFactors.mono _ _)
   | (with_reducible exact spec_RadicalOf.mono _ _)
   | (with_reducible exact LeO.refl _)
   | (with_reducible exact LeO.none _)
   | (with_reducible refine LeO.ite ?_ ?_)
   | (with_reducible refine LeO.bind ?_ (fun _ => ?_))
   | exact ih0 _ _ _ _ _ _ _ _ _ _ _
   | exact ih1 _ _ _
   | exact ih2 _ _ _ _ _ _ _
   | exact ih3 _ _ _ _ _ _ _ _ _ _
   | exact impl_FactorsOf.mono _ _
   | exact impl_IsPrime.mono _ _
   | exact impl_IsSmooth.mono _ _ _
   | exact impl_LeastFactor.mono _ _
   | exact impl_NumberOfFactors.mono _ _
   | exact impl_RadicalOf.mono _ _
   | exact laws_gLists.mono _ _ _
   | exact spec_FactorsOf.mono _ _
   | exact spec_IsPrime.mono _ _
   | exact spec_IsSmooth.mono _ _ _
   | exact spec_LeastFactor.mono _ _
   | exact spec_NumberOfFactors.mono _ _
   | exact spec_RadicalOf.mono _ _
   | exact LeO.none _
   | refine LeO.ite ?_ ?_
   | refine LeO.bind ?_ (fun _ => ?_)
  ·intro y0 y1 y2
   unfold laws_FnFactorsToldOfAll.j3
   repeat' first
   | (with_reducible exact ih0 _ _ _ _ _ _ _ _ _ _ _)
   | (with_reducible exact ih1 _ _ _)
   | (with_reducible exact ih2 _ _ _ _ _ _ _)
   | (with_reducible exact ih3 _ _ _ _ _ _ _ _ _ _)
   | (with_reducible exact impl_FactorsOf.mono _ _)
   | (with_reducible exact impl_IsPrime.mono _ _)
   | (with_reducible exact impl_IsSmooth.mono _ _ _)
   | (with_reducible exact impl_LeastFactor.mono _ _)
   | (with_reducible exact impl_NumberOfFactors.mono _ _)
   | (with_reducible exact impl_RadicalOf.mono _ _)
   | (with_reducible exact laws_gLists.mono _ _ _)
   | (with_reducible exact spec_FactorsOf.mono _ _)
   | (with_reducible exact spec_IsPrime.mono _ _)
   | (with_reducible exact spec_IsSmooth.mono _ _ _)
   | (with_reducible exact spec_LeastFactor.mono _ _)
   | (with_reducible exact spec_NumberOfFactors.mono _ _)
   | (with_reducible exact spec_RadicalOf.mono _ _)
   | (with_reducible exact LeO.refl _)
   | (with_reducible exact LeO.none _)
   | (with_reducible refine LeO.ite ?_ ?_)
   | (with_reducible refine LeO.bind ?_ (fun _ => ?_))
   | exact ih0 _ _ _ _ _ _ _ _ _ _ _
   | exact ih1 _ _ _
   | exact ih2 _ _ _ _ _ _ _
   | exact ih3 _ _ _ _ _ _ _ _ _ _
   | exact impl_FactorsOf.mono _ _
   | exact impl_IsPrime.mono _ _
   | exact impl_IsSmooth.mono _ _ _
   | exact impl_LeastFactor.mono _ _
   | exact impl_NumberOfFactors.mono _ _
   | exact impl_RadicalOf.mono _ _
   | exact laws_gLists.mono _ _ _
   | exact spec_FactorsOf.mono _ _
   | exact spec_IsPrime.mono _ _
   | exact spec_IsSmooth.mono _ _ _
   | exact spec_LeastFactor.mono _ _
   | exact spec_NumberOfFactors.mono _ _
   | exact spec_RadicalOf.mono _ _
   | exact LeO.none _
   | refine LeO.ite ?_ ?_
   | refine LeO.bind ?_ (fun _ => ?_)
  ·intro y0 y1 y2 y3 y4 y5 y6
   unfold laws_FnFactorsToldOfAll.j1
   repeat' first
   | (with_reducible exact ih0 _ _ _ _ _ _ _ _ _ _ _)
   | (with_reducible exact ih1 _ _ _)
   | (with_reducible exact ih2 _ _ _ _ _ _ _)
   | (with_reducible exact ih3 _ _ _ _ _ _ _ _ _ _)
   | (with_reducible exact impl_FactorsOf.mono _ _)
   | (with_reducible exact impl_IsPrime.mono _ _)
   | (with_reducible exact impl_IsSmooth.mono _ _ _)
   | (with_reducible exact impl_LeastFactor.mono _ _)
   | (with_reducible exact impl_NumberOfFactors.mono _ _)
   | (with_reducible exact impl_RadicalOf.mono _ _)
   | (with_reducible exact laws_gLists.mono _ _ _)
   | (with_reducible exact spec_FactorsOf.mono _ _)
   | (with_reducible exact spec_IsPrime.mono _ _)
   | (with_reducible exact spec_IsSmooth.mono _ _ _)
   | (with_reducible exact spec_LeastFactor.mono _ _)
   | (with_reducible exact spec_NumberOfFactors.mono _ _)
   | (with_reducible exact spec_RadicalOf.mono _ _)
   | (with_reducible exact LeO.refl _)
   | (with_reducible exact LeO.none _)
   | (with_reducible refine LeO.ite ?_ ?_)
   | (with_reducible refine LeO.bind ?_ (fun _ => ?_))
   | exact ih0 _ _ _ _ _ _ _ _ _ _ _
   | exact ih1 _ _ _
   | exact ih2 _ _ _ _ _ _ _
   | exact ih3 _ _ _ _ _ _ _ _ _ _
   | exact impl_FactorsOf.mono _ _
   | exact impl_IsPrime.mono _ _
   | exact impl_IsSmooth.mono _ _ _
   | exact impl_LeastFactor.mono _ _
   | exact impl_NumberOfFactors.mono _ _
   | exact impl_RadicalOf.mono _ _
   | exact laws_gLists.mono _ _ _
   | exact spec_FactorsOf.mono _ _
   | exact spec_IsPrime.mono _ _
   | exact spec_IsSmooth.mono _ _ _
   | exact spec_LeastFactor.mono _ _
   | exact spec_NumberOfFactors.mono _ _
   | exact spec_RadicalOf.mono _ _
   | exact LeO.none _
   | refine LeO.ite ?_ ?_
   | refine LeO.bind ?_ (fun _ => ?_)
  ·intro y0 y1 y2 y3 y4 y5 y6 y7 y8 y9
   unfold laws_FnFactorsToldOfAll.l0
   repeat' first
   | (with_reducible exact ih0 _ _ _ _ _ _ _ _ _ _ _)
   | (with_reducible exact ih1 _ _ _)
   | (with_reducible exact ih2 _ _ _ _ _ _ _)
   | (with_reducible exact ih3 _ _ _ _ _ _ _ _ _ _)
   | (with_reducible exact impl_FactorsOf.mono _ _)
   | (with_reducible exact impl_IsPrime.mono _ _)
   | (with_reducible exact impl_IsSmooth.mono _ _ _)
   | (with_reducible exact impl_LeastFactor.mono _ _)
   | (with_reducible exact impl_NumberOfFactors.mono _ _)
   | (with_reducible exact impl_RadicalOf.mono _ _)
   | (with_reducible exact laws_gLists.mono _ _ _)
   | (with_reducible exact spec_FactorsOf.mono _ _)
   | (with_reducible exact spec_IsPrime.mono _ _)
   | (with_reducible exact spec_IsSmooth.mono _ _ _)
   | (with_reducible exact spec_LeastFactor.mono _ _)
   | (with_reducible exact spec_NumberOfFactors.mono _ _)
   | (with_reducible exact spec_RadicalOf.mono _ _)
   | (with_reducible exact LeO.refl _)
   | (with_reducible exact LeO.none _)
   | (with_reducible refine LeO.ite ?_ ?_)
   | (with_reducible refine LeO.bind ?_ (fun _ => ?_))
   | exact ih0 _ _ _ _ _ _ _ _ _ _ _
   | exact ih1 _ _ _
   | exact ih2 _ _ _ _ _ _ _
   | exact ih3 _ _ _ _ _ _ _ _ _ _
   | exact impl_FactorsOf.mono _ _
   | exact impl_IsPrime.mono _ _
   | exact impl_IsSmooth.mono _ _ _
   | exact impl_LeastFactor.mono _ _
   | exact impl_NumberOfFactors.mono _ _
   | exact impl_RadicalOf.mono _ _
   | exact laws_gLists.mono _ _ _
   | exact spec_FactorsOf.mono _ _
   | exact spec_IsPrime.mono _ _
   | exact spec_IsSmooth.mono _ _ _
   | exact spec_LeastFactor.mono _ _
   | exact spec_NumberOfFactors.mono _ _
   | exact spec_RadicalOf.mono _ _
   | exact LeO.none _
   | refine LeO.ite ?_ ?_
   | refine LeO.bind ?_ (fun _ => ?_)
theorem laws_FnFactorsToldOfAll.mono : ∀ a0 a1 a2 a3 k, LeO (laws_FnFactorsToldOfAll.f k a0 a1 a2 a3) (laws_FnFactorsToldOfAll.f (k + 1) a0 a1 a2 a3) := by
 intro a0 a1 a2 a3 k
 obtain ⟨ih0, ih1, ih2, ih3⟩ := laws_FnFactorsToldOfAll.mono_l k
 unfold laws_FnFactorsToldOfAll.f
 repeat' first
   | (with_reducible exact ih0 _ _ _ _ _ _ _ _ _ _ _)
   | (with_reducible exact ih1 _ _ _)
   | (with_reducible exact ih2 _ _ _ _ _ _ _)
   | (with_reducible exact ih3 _ _ _ _ _ _ _ _ _ _)
   | (with_reducible exact impl_FactorsOf.mono _ _)
   | (with_reducible exact impl_IsPrime.mono _ _)
   | (with_reducible exact impl_IsSmooth.mono _ _ _)
   | (with_reducible exact impl_LeastFactor.mono _ _)
   | (with_reducible exact impl_NumberOfFactors.mono _ _)
   | (with_reducible exact impl_RadicalOf.mono _ _)
   | (with_reducible exact laws_gLists.mono _ _ _)
   | (with_reducible exact spec_FactorsOf.mono _ _)
   | (with_reducible exact spec_IsPrime.mono _ _)
   | (with_reducible exact spec_IsSmooth.mono _ _ _)
   | (with_reducible exact spec_LeastFactor.mono _ _)
   | (with_reducible exact spec_NumberOfFactors.mono _ _)
   | (with_reducible exact spec_RadicalOf.mono _ _)
   | (with_reducible exact LeO.refl _)
   | (with_reducible exact LeO.none _)
   | (with_reducible refine LeO.ite ?_ ?_)
   | (with_reducible refine LeO.bind ?_ (fun _ => ?_))
   | exact ih0 _ _ _ _ _ _ _ _ _ _ _
   | exact ih1 _ _ _
   | exact ih2 _ _ _ _ _ _ _
   | exact ih3 _ _ _ _ _ _ _ _ _ _
   | exact impl_FactorsOf.mono _ _
   | exact impl_IsPrime.mono _ _
   | exact impl_IsSmooth.mono _ _ _
   | exact impl_LeastFactor.mono _ _
   | exact impl_NumberOfFactors.mono _ _
   | exact impl_RadicalOf.mono _ _
   | exact laws_gLists.mono _ _ _
   | exact spec_FactorsOf.mono _ _
   | exact spec_IsPrime.mono _ _
   | exact spec_IsSmooth.mono _ _ _
   | exact spec_LeastFactor.mono _ _
   | exact spec_NumberOfFactors.mono _ _
   | exact spec_RadicalOf.mono _ _
   | exact LeO.none _
   | refine LeO.ite ?_ ?_
   | refine LeO.bind ?_ (fun _ => ?_)
set_option maxHeartbeats 8000000 in
set_option maxRecDepth 100000 in
theorem laws_FnFactorsToldOfAll.calls (k : Nat) (a0 : Int) (A1 : Option Addr) (c1 : Nat) (l1 : List (List Int)) (a2 : Int) (a3 : Int) (r : Bool) (w : World) (hr1 : Kd.C (Kd.slice 3 (Kd.int .i64)) w A1 l1.length l1) (hc1 : l1.length ≤ c1) (h : laws_FnFactorsToldOfAll.f k a0 l1 a2 a3 = some r) :
  Calls Try.prog 12 #[.int .i64 a0, .slice A1 l1.length c1, .int .i64 a2, .int .i64 a3] w fun e w' => e = .returned (.bool r) ∧ Below w.heap.size w w' := by
 have HR1 := Aside0.mk hr1
 have HC1 := Aside0.mk hc1
 clear hr1 hc1
 have HB := Aside0.mk (Below.refl w.heap.size w)
 have H : (if (l1.length : Int) > 10000 then (some true) else ((impl_FactorsOf.f k a0).bind fun bt192 => ((spec_FactorsOf.f k a0).bind fun bt196 => ((impl_RadicalOf.f k a0).bind fun bt200 => ((spec_RadicalOf.f k a0).bind fun bt202 => ((impl_LeastFactor.f k a0).bind fun bt204 => ((spec_LeastFactor.f k a0).bind fun bt206 => ((impl_IsPrime.f k a0).bind fun bt208 => ((spec_IsPrime.f k a0).bind fun bt210 => (if (bt192.2 != bt196.2) = true then (none) else ((laws_gLists.f k bt192.1 bt196.1).bind fun t212 => (if t212 = true then (if (bt200.2 != bt202.2) = true then (none) else (if bt200.1 = bt202.1 then (if (bt204.2 != bt206.2) = true then (none) else (if bt204.1 = bt206.1 then (if (bt208.2 != bt210.2) = true then (none) else (if (bt208.1 != bt210.1) = true then (none) else (if (bt200.2 != bt192.2) = true then (none) else (if bt192.2 = true then (if (bt204.2 != (decide (a0 > 1))) = true then (none) else (laws_FnFactorsToldOfAll.j0 k a0 l1 a2 a3 bt192.1 bt192.2 bt200.1 bt204.1 bt204.2 bt208.1 (!bt208.2))) else (if (bt204.2 != false) = true then (none) else (laws_FnFactorsToldOfAll.j0 k a0 l1 a2 a3 bt192.1 bt192.2 bt200.1 bt204.1 bt204.2 bt208.1 false)))))) else (none))) else (none))) else (none))))))))))))) = some r := h
 clear h
 by_cases c5 : (l1.length : Int) > 10000
 ·as_aux_lemma =>
  rw [if_pos c5] at H
  have c5b0 : decide (10000 < (l1.length : Int)) = true := decide_eq_true c5
  have c5b1 : decide (10000 < l1.length) = true := decide_eq_true (by omega)
  clear c5
  obtain rfl := Option.some.inj H
  go_enter Try.func12, Try.ntmps12
  go_wp2
  repeat (go_quiet (fail); try go_wp2)
  go_ret
  exact ⟨by first | rfl | (simp [errW_none, errW_some] <;> rfl) | (simp [*, errW_none, errW_some] <;> rfl), by repeat (first | (with_reducible first | exact HB.out | apply below_alloc | apply pw_below_drewN | apply below_drew1) | exact HB.out)⟩
 ·as_aux_lemma =>
  rw [if_neg c5] at H
  have c5b0 : decide (10000 < (l1.length : Int)) = false := decide_eq_false c5
  have c5b1 : decide (10000 < l1.length) = false := decide_eq_false (by omega)
  clear c5
  replace H := Option.bind_eq_some_iff.mp H
  obtain ⟨⟨t192, t193⟩, A60, H⟩ := H
  replace H : ((spec_FactorsOf.f k a0).bind fun bt196 => ((impl_RadicalOf.f k a0).bind fun bt200 => ((spec_RadicalOf.f k a0).bind fun bt202 => ((impl_LeastFactor.f k a0).bind fun bt204 => ((spec_LeastFactor.f k a0).bind fun bt206 => ((impl_IsPrime.f k a0).bind fun bt208 => ((spec_IsPrime.f k a0).bind fun bt210 => (if (t193 != bt196.2) = true then (none) else ((laws_gLists.f k t192 bt196.1).bind fun t212 => (if t212 = true then (if (bt200.2 != bt202.2) = true then (none) else (if bt200.1 = bt202.1 then (if (bt204.2 != bt206.2) = true then (none) else (if bt204.1 = bt206.1 then (if (bt208.2 != bt210.2) = true then (none) else (if (bt208.1 != bt210.1) = true then (none) else (if (bt200.2 != t193) = true then (none) else (if t193 = true then (if (bt204.2 != (decide (a0 > 1))) = true then (none) else (laws_FnFactorsToldOfAll.j0 k a0 l1 a2 a3 t192 t193 bt200.1 bt204.1 bt204.2 bt208.1 (!bt208.2))) else (if (bt204.2 != false) = true then (none) else (laws_FnFactorsToldOfAll.j0 k a0 l1 a2 a3 t192 t193 bt200.1 bt204.1 bt204.2 bt208.1 false)))))) else (none))) else (none))) else (none))))))))))) = some r := H
  have A6 := Aside0.mk A60
  clear A60
  replace H := Option.bind_eq_some_iff.mp H
  obtain ⟨⟨t196, t197⟩, A70, H⟩ := H
  replace H : ((impl_RadicalOf.f k a0).bind fun bt200 => ((spec_RadicalOf.f k a0).bind fun bt202 => ((impl_LeastFactor.f k a0).bind fun bt204 => ((spec_LeastFactor.f k a0).bind fun bt206 => ((impl_IsPrime.f k a0).bind fun bt208 => ((spec_IsPrime.f k a0).bind fun bt210 => (if (t193 != t197) = true then (none) else ((laws_gLists.f k t192 t196).bind fun t212 => (if t212 = true then (if (bt200.2 != bt202.2) = true then (none) else (if bt200.1 = bt202.1 then (if (bt204.2 != bt206.2) = true then (none) else (if bt204.1 = bt206.1 then (if (bt208.2 != bt210.2) = true then (none) else (if (bt208.1 != bt210.1) = true then (none) else (if (bt200.2 != t193) = true then (none) else (if t193 = true then (if (bt204.2 != (decide (a0 > 1))) = true then (none) else (laws_FnFactorsToldOfAll.j0 k a0 l1 a2 a3 t192 t193 bt200.1 bt204.1 bt204.2 bt208.1 (!bt208.2))) else (if (bt204.2 != false) = true then (none) else (laws_FnFactorsToldOfAll.j0 k a0 l1 a2 a3 t192 t193 bt200.1 bt204.1 bt204.2 bt208.1 false)))))) else (none))) else (none))) else (none)))))))))) = some r := H
  have A7 := Aside0.mk A70
  clear A70
  replace H := Option.bind_eq_some_iff.mp H
  obtain ⟨⟨t200, t201⟩, A80, H⟩ := H
  replace H : ((spec_RadicalOf.f k a0).bind fun bt202 => ((impl_LeastFactor.f k a0).bind fun bt204 => ((spec_LeastFactor.f k a0).bind fun bt206 => ((impl_IsPrime.f k a0).bind fun bt208 => ((spec_IsPrime.f k a0).bind fun bt210 => (if (t193 != t197) = true then (none) else ((laws_gLists.f k t192 t196).bind fun t212 => (if t212 = true then (if (t201 != bt202.2) = true then (none) else (if t200 = bt202.1 then (if (bt204.2 != bt206.2) = true then (none) else (if bt204.1 = bt206.1 then (if (bt208.2 != bt210.2) = true then (none) else (if (bt208.1 != bt210.1) = true then (none) else (if (t201 != t193) = true then (none) else (if t193 = true then (if (bt204.2 != (decide (a0 > 1))) = true then (none) else (laws_FnFactorsToldOfAll.j0 k a0 l1 a2 a3 t192 t193 t200 bt204.1 bt204.2 bt208.1 (!bt208.2))) else (if (bt204.2 != false) = true then (none) else (laws_FnFactorsToldOfAll.j0 k a0 l1 a2 a3 t192 t193 t200 bt204.1 bt204.2 bt208.1 false)))))) else (none))) else (none))) else (none))))))))) = some r := H
  have A8 := Aside0.mk A80
  clear A80
  replace H := Option.bind_eq_some_iff.mp H
  obtain ⟨⟨t202, t203⟩, A90, H⟩ := H
  replace H : ((impl_LeastFactor.f k a0).bind fun bt204 => ((spec_LeastFactor.f k a0).bind fun bt206 => ((impl_IsPrime.f k a0).bind fun bt208 => ((spec_IsPrime.f k a0).bind fun bt210 => (if (t193 != t197) = true then (none) else ((laws_gLists.f k t192 t196).bind fun t212 => (if t212 = true then (if (t201 != t203) = true then (none) else (if t200 = t202 then (if (bt204.2 != bt206.2) = true then (none) else (if bt204.1 = bt206.1 then (if (bt208.2 != bt210.2) = true then (none) else (if (bt208.1 != bt210.1) = true then (none) else (if (t201 != t193) = true then (none) else (if t193 = true then (if (bt204.2 != (decide (a0 > 1))) = true then (none) else (laws_FnFactorsToldOfAll.j0 k a0 l1 a2 a3 t192 t193 t200 bt204.1 bt204.2 bt208.1 (!bt208.2))) else (if (bt204.2 != false) = true then (none) else (laws_FnFactorsToldOfAll.j0 k a0 l1 a2 a3 t192 t193 t200 bt204.1 bt204.2 bt208.1 false)))))) else (none))) else (none))) else (none)))))))) = some r := H
  have A9 := Aside0.mk A90
  clear A90
  replace H := Option.bind_eq_some_iff.mp H
  obtain ⟨⟨t204, t205⟩, A100, H⟩ := H
  replace H : ((spec_LeastFactor.f k a0).bind fun bt206 => ((impl_IsPrime.f k a0).bind fun bt208 => ((spec_IsPrime.f k a0).bind fun bt210 => (if (t193 != t197) = true then (none) else ((laws_gLists.f k t192 t196).bind fun t212 => (if t212 = true then (if (t201 != t203) = true then (none) else (if t200 = t202 then (if (t205 != bt206.2) = true then (none) else (if t204 = bt206.1 then (if (bt208.2 != bt210.2) = true then (none) else (if (bt208.1 != bt210.1) = true then (none) else (if (t201 != t193) = true then (none) else (if t193 = true then (if (t205 != (decide (a0 > 1))) = true then (none) else (laws_FnFactorsToldOfAll.j0 k a0 l1 a2 a3 t192 t193 t200 t204 t205 bt208.1 (!bt208.2))) else (if (t205 != false) = true then (none) else (laws_FnFactorsToldOfAll.j0 k a0 l1 a2 a3 t192 t193 t200 t204 t205 bt208.1 false)))))) else (none))) else (none))) else (none))))))) = some r := H
  have A10 := Aside0.mk A100
  clear A100
  replace H := Option.bind_eq_some_iff.mp H
  obtain ⟨⟨t206, t207⟩, A110, H⟩ := H
  replace H : ((impl_IsPrime.f k a0).bind fun bt208 => ((spec_IsPrime.f k a0).bind fun bt210 => (if (t193 != t197) = true then (none) else ((laws_gLists.f k t192 t196).bind fun t212 => (if t212 = true then (if (t201 != t203) = true then (none) else (if t200 = t202 then (if (t205 != t207) = true then (none) else (if t204 = t206 then (if (bt208.2 != bt210.2) = true then (none) else (if (bt208.1 != bt210.1) = true then (none) else (if (t201 != t193) = true then (none) else (if t193 = true then (if (t205 != (decide (a0 > 1))) = true then (none) else (laws_FnFactorsToldOfAll.j0 k a0 l1 a2 a3 t192 t193 t200 t204 t205 bt208.1 (!bt208.2))) else (if (t205 != false) = true then (none) else (laws_FnFactorsToldOfAll.j0 k a0 l1 a2 a3 t192 t193 t200 t204 t205 bt208.1 false)))))) else (none))) else (none))) else (none)))))) = some r := H
  have A11 := Aside0.mk A110
  clear A110
  replace H := Option.bind_eq_some_iff.mp H
  obtain ⟨⟨t208, t209⟩, A120, H⟩ := H
  replace H : ((spec_IsPrime.f k a0).bind fun bt210 => (if (t193 != t197) = true then (none) else ((laws_gLists.f k t192 t196).bind fun t212 => (if t212 = true then (if (t201 != t203) = true then (none) else (if t200 = t202 then (if (t205 != t207) = true then (none) else (if t204 = t206 then (if (t209 != bt210.2) = true then (none) else (if (t208 != bt210.1) = true then (none) else (if (t201 != t193) = true then (none) else (if t193 = true then (if (t205 != (decide (a0 > 1))) = true then (none) else (laws_FnFactorsToldOfAll.j0 k a0 l1 a2 a3 t192 t193 t200 t204 t205 t208 (!t209))) else (if (t205 != false) = true then (none) else (laws_FnFactorsToldOfAll.j0 k a0 l1 a2 a3 t192 t193 t200 t204 t205 t208 false)))))) else (none))) else (none))) else (none))))) = some r := H
  have A12 := Aside0.mk A120
  clear A120
  replace H := Option.bind_eq_some_iff.mp H
  obtain ⟨⟨t210, t211⟩, A130, H⟩ := H
  replace H : (if (t193 != t197) = true then (none) else ((laws_gLists.f k t192 t196).bind fun t212 => (if t212 = true then (if (t201 != t203) = true then (none) else (if t200 = t202 then (if (t205 != t207) = true then (none) else (if t204 = t206 then (if (t209 != t211) = true then (none) else (if (t208 != t210) = true then (none) else (if (t201 != t193) = true then (none) else (if t193 = true then (if (t205 != (decide (a0 > 1))) = true then (none) else (laws_FnFactorsToldOfAll.j0 k a0 l1 a2 a3 t192 t193 t200 t204 t205 t208 (!t209))) else (if (t205 != false) = true then (none) else (laws_FnFactorsToldOfAll.j0 k a0 l1 a2 a3 t192 t193 t200 t204 t205 t208 false)))))) else (none))) else (none))) else (none)))) = some r := H
  have A13 := Aside0.mk A130
  clear A130
  have HC14 := Aside0.mk H
  clear H
  go_enter Try.func12, Try.ntmps12
  as_aux_lemma =>
  go_upto_region 11 with (first | (go_at_call 32; (with_reducible refine (impl_FactorsOf.calls k a0 t192 t193 _ A6.out).mono ?_); rintro e w15 ⟨v194, rfl, ho0, hb⟩; have n0_ := Aside0.mk (Kd.S_lower ho0 (below_size (by repeat (first | (with_reducible first | exact HB.out | apply below_alloc | apply pw_below_drewN | apply below_drew1) | exact HB.out)))); have n1_ := Aside0.mk (below_step (by repeat (first | (with_reducible first | exact HB.out | apply below_alloc | apply pw_below_drewN | apply below_drew1) | exact HB.out)) hb); clear HB; have HO195 := n0_; have HB := n1_; clear n0_ n1_; (try clear hb); (try clear hb2); (try clear hk); (try clear hi); (try clear ho0)))
  as_aux_lemma =>
  go_upto_region 11 with (first | (go_at_call 31; (with_reducible refine (spec_FactorsOf.calls k a0 t196 t197 _ A7.out).mono ?_); rintro e w16 ⟨v198, rfl, ho0, hb⟩; have n0_ := Aside0.mk (Kd.S_elder' (by (with_reducible repeat (first | apply Kd.S_alloc | apply Kd.S_drewN | apply Kd.S_drew)); exact HO195.out) (Kd.S_base ho0) hb); have n1_ := Aside0.mk (Kd.S_lower (Kd.S_new' ho0 (Kd.S_lt (by (with_reducible repeat (first | apply Kd.S_alloc | apply Kd.S_drewN | apply Kd.S_drew)); exact HO195.out))) (below_size (by repeat (first | (with_reducible first | exact HB.out | apply below_alloc | apply pw_below_drewN | apply below_drew1) | exact HB.out)))); have n2_ := Aside0.mk (below_step (by repeat (first | (with_reducible first | exact HB.out | apply below_alloc | apply pw_below_drewN | apply below_drew1) | exact HB.out)) hb); clear HO195; clear HB; have HO195 := n0_; have HO199 := n1_; have HB := n2_; clear n0_ n1_ n2_; (try clear hb); (try clear hb2); (try clear hk); (try clear hi); (try clear ho0)))
  as_aux_lemma =>
  go_upto_region 11 with (first | (go_at_call 44; (with_reducible refine (impl_RadicalOf.calls k a0 t200 t201 _ A8.out).mono ?_); rintro e w17 ⟨rfl, hb⟩; have n0_ := Aside0.mk (Kd.S_below (by (with_reducible repeat (first | apply Kd.S_alloc | apply Kd.S_drewN | apply Kd.S_drew)); exact HO195.out) hb); have n1_ := Aside0.mk (Kd.S_below (by (with_reducible repeat (first | apply Kd.S_alloc | apply Kd.S_drewN | apply Kd.S_drew)); exact HO199.out) hb); have n2_ := Aside0.mk (below_step (by repeat (first | (with_reducible first | exact HB.out | apply below_alloc | apply pw_below_drewN | apply below_drew1) | exact HB.out)) hb); clear HO195; clear HO199; clear HB; have HO195 := n0_; have HO199 := n1_; have HB := n2_; clear n0_ n1_ n2_; (try clear hb); (try clear hb2); (try clear hk); (try clear hi)))
  as_aux_lemma =>
  go_upto_region 11 with (first | (go_at_call 45; (with_reducible refine (spec_RadicalOf.calls k a0 t202 t203 _ A9.out).mono ?_); rintro e w18 ⟨rfl, hb⟩; have n0_ := Aside0.mk (Kd.S_below (by (with_reducible repeat (first | apply Kd.S_alloc | apply Kd.S_drewN | apply Kd.S_drew)); exact HO195.out) hb); have n1_ := Aside0.mk (Kd.S_below (by (with_reducible repeat (first | apply Kd.S_alloc | apply Kd.S_drewN | apply Kd.S_drew)); exact HO199.out) hb); have n2_ := Aside0.mk (below_step (by repeat (first | (with_reducible first | exact HB.out | apply below_alloc | apply pw_below_drewN | apply below_drew1) | exact HB.out)) hb); clear HO195; clear HO199; clear HB; have HO195 := n0_; have HO199 := n1_; have HB := n2_; clear n0_ n1_ n2_; (try clear hb); (try clear hb2); (try clear hk); (try clear hi)))
  as_aux_lemma =>
  go_upto_region 11 with (first | (go_at_call 46; (with_reducible refine (impl_LeastFactor.calls k a0 t204 t205 _ A10.out).mono ?_); rintro e w' ⟨rfl, ⟨nd, rfl⟩⟩; (try first | exact ⟨rfl, _, World.drewN_drewN _ _ _⟩ | exact ⟨rfl, _, Eq.trans (World.drewN_drewN _ _ _) (congrArg (World.drewN _) (Nat.add_assoc _ _ _))⟩)))
  as_aux_lemma =>
  go_upto_region 11 with (first | (go_at_call 47; (with_reducible refine (spec_LeastFactor.calls k a0 t206 t207 _ A11.out).mono ?_); rintro e w' ⟨rfl, ⟨nd, rfl⟩⟩; (try first | exact ⟨rfl, _, World.drewN_drewN _ _ _⟩ | exact ⟨rfl, _, Eq.trans (World.drewN_drewN _ _ _) (congrArg (World.drewN _) (Nat.add_assoc _ _ _))⟩)))
  as_aux_lemma =>
  go_upto_region 11 with (first | (go_at_call 48; (with_reducible refine (impl_IsPrime.calls k a0 t208 t209 _ A12.out).mono ?_); rintro e w' ⟨rfl, ⟨nd, rfl⟩⟩; (try first | exact ⟨rfl, _, World.drewN_drewN _ _ _⟩ | exact ⟨rfl, _, Eq.trans (World.drewN_drewN _ _ _) (congrArg (World.drewN _) (Nat.add_assoc _ _ _))⟩)))
  as_aux_lemma =>
  go_upto_region 11 with (first | (go_at_call 49; (with_reducible refine (spec_IsPrime.calls k a0 t210 t211 _ A13.out).mono ?_); rintro e w' ⟨rfl, ⟨nd, rfl⟩⟩; (try first | exact ⟨rfl, _, World.drewN_drewN _ _ _⟩ | exact ⟨rfl, _, Eq.trans (World.drewN_drewN _ _ _) (congrArg (World.drewN _) (Nat.add_assoc _ _ _))⟩)))
  repeat (go_quiet (first | (go_at_call 32; (with_reducible refine (impl_FactorsOf.calls k a0 t192 t193 _ A6.out).mono ?_); rintro e w15 ⟨v194, rfl, ho0, hb⟩; have n0_ := Aside0.mk (Kd.S_lower ho0 (below_size (by repeat (first | (with_reducible first | exact HB.out | apply below_alloc | apply pw_below_drewN | apply below_drew1) | exact HB.out)))); have n1_ := Aside0.mk (below_step (by repeat (first | (with_reducible first | exact HB.out | apply below_alloc | apply pw_below_drewN | apply below_drew1) | exact HB.out)) hb); clear HB; have HO195 := n0_; have HB := n1_; clear n0_ n1_; (try clear hb); (try clear hb2); (try clear hk); (try clear hi); (try clear ho0)) | (go_at_call 31; (with_reducible refine (spec_FactorsOf.calls k a0 t196 t197 _ A7.out).mono ?_); rintro e w16 ⟨v198, rfl, ho0, hb⟩; have n0_ := Aside0.mk (Kd.S_elder' (by (with_reducible repeat (first | apply Kd.S_alloc | apply Kd.S_drewN | apply Kd.S_drew)); exact HO195.out) (Kd.S_base ho0) hb); have n1_ := Aside0.mk (Kd.S_lower (Kd.S_new' ho0 (Kd.S_lt (by (with_reducible repeat (first | apply Kd.S_alloc | apply Kd.S_drewN | apply Kd.S_drew)); exact HO195.out))) (below_size (by repeat (first | (with_reducible first | exact HB.out | apply below_alloc | apply pw_below_drewN | apply below_drew1) | exact HB.out)))); have n2_ := Aside0.mk (below_step (by repeat (first | (with_reducible first | exact HB.out | apply below_alloc | apply pw_below_drewN | apply below_drew1) | exact HB.out)) hb); clear HO195; clear HB; have HO195 := n0_; have HO199 := n1_; have HB := n2_; clear n0_ n1_ n2_; (try clear hb); (try clear hb2); (try clear hk); (try clear hi); (try clear ho0)) | (go_at_call 44; (with_reducible refine (impl_RadicalOf.calls k a0 t200 t201 _ A8.out).mono ?_); rintro e w17 ⟨rfl, hb⟩; have n0_ := Aside0.mk (Kd.S_below (by (with_reducible repeat (first | apply Kd.S_alloc | apply Kd.S_drewN | apply Kd.S_drew)); exact HO195.out) hb); have n1_ := Aside0.mk (Kd.S_below (by (with_reducible repeat (first | apply Kd.S_alloc | apply Kd.S_drewN | apply Kd.S_drew)); exact HO199.out) hb); have n2_ := Aside0.mk (below_step (by repeat (first | (with_reducible first | exact HB.out | apply below_alloc | apply pw_below_drewN | apply below_drew1) | exact HB.out)) hb); clear HO195; clear HO199; clear HB; have HO195 := n0_; have HO199 := n1_; have HB := n2_; clear n0_ n1_ n2_; (try clear hb); (try clear hb2); (try clear hk); (try clear hi)) | (go_at_call 45; (with_reducible refine (spec_RadicalOf.calls k a0 t202 t203 _ A9.out).mono ?_); rintro e w18 ⟨rfl, hb⟩; have n0_ := Aside0.mk (Kd.S_below (by (with_reducible repeat (first | apply Kd.S_alloc | apply Kd.S_drewN | apply Kd.S_drew)); exact HO195.out) hb); have n1_ := Aside0.mk (Kd.S_below (by (with_reducible repeat (first | apply Kd.S_alloc | apply Kd.S_drewN | apply Kd.S_drew)); exact HO199.out) hb); have n2_ := Aside0.mk (below_step (by repeat (first | (with_reducible first | exact HB.out | apply below_alloc | apply pw_below_drewN | apply below_drew1) | exact HB.out)) hb); clear HO195; clear HO199; clear HB; have HO195 := n0_; have HO199 := n1_; have HB := n2_; clear n0_ n1_ n2_; (try clear hb); (try clear hb2); (try clear hk); (try clear hi)) | (go_at_call 46; (with_reducible refine (impl_LeastFactor.calls k a0 t204 t205 _ A10.out).mono ?_); rintro e w' ⟨rfl, ⟨nd, rfl⟩⟩; (try first | exact ⟨rfl, _, World.drewN_drewN _ _ _⟩ | exact ⟨rfl, _, Eq.trans (World.drewN_drewN _ _ _) (congrArg (World.drewN _) (Nat.add_assoc _ _ _))⟩)) | (go_at_call 47; (with_reducible refine (spec_LeastFactor.calls k a0 t206 t207 _ A11.out).mono ?_); rintro e w' ⟨rfl, ⟨nd, rfl⟩⟩; (try first | exact ⟨rfl, _, World.drewN_drewN _ _ _⟩ | exact ⟨rfl, _, Eq.trans (World.drewN_drewN _ _ _) (congrArg (World.drewN _) (Nat.add_assoc _ _ _))⟩)) | (go_at_call 48; (with_reducible refine (impl_IsPrime.calls k a0 t208 t209 _ A12.out).mono ?_); rintro e w' ⟨rfl, ⟨nd, rfl⟩⟩; (try first | exact ⟨rfl, _, World.drewN_drewN _ _ _⟩ | exact ⟨rfl, _, Eq.trans (World.drewN_drewN _ _ _) (congrArg (World.drewN _) (Nat.add_assoc _ _ _))⟩)) | (go_at_call 49; (with_reducible refine (spec_IsPrime.calls k a0 t210 t211 _ A13.out).mono ?_); rintro e w' ⟨rfl, ⟨nd, rfl⟩⟩; (try first | exact ⟨rfl, _, World.drewN_drewN _ _ _⟩ | exact ⟨rfl, _, Eq.trans (World.drewN_drewN _ _ _) (congrArg (World.drewN _) (Nat.add_assoc _ _ _))⟩))); go_upto_region 11 with (first | (go_at_call 32; (with_reducible refine (impl_FactorsOf.calls k a0 t192 t193 _ A6.out).mono ?_); rintro e w15 ⟨v194, rfl, ho0, hb⟩; have n0_ := Aside0.mk (Kd.S_lower ho0 (below_size (by repeat (first | (with_reducible first | exact HB.out | apply below_alloc | apply pw_below_drewN | apply below_drew1) | exact HB.out)))); have n1_ := Aside0.mk (below_step (by repeat (first | (with_reducible first | exact HB.out | apply below_alloc | apply pw_below_drewN | apply below_drew1) | exact HB.out)) hb); clear HB; have HO195 := n0_; have HB := n1_; clear n0_ n1_; (try clear hb); (try clear hb2); (try clear hk); (try clear hi); (try clear ho0)) | (go_at_call 31; (with_reducible refine (spec_FactorsOf.calls k a0 t196 t197 _ A7.out).mono ?_); rintro e w16 ⟨v198, rfl, ho0, hb⟩; have n0_ := Aside0.mk (Kd.S_elder' (by (with_reducible repeat (first | apply Kd.S_alloc | apply Kd.S_drewN | apply Kd.S_drew)); exact HO195.out) (Kd.S_base ho0) hb); have n1_ := Aside0.mk (Kd.S_lower (Kd.S_new' ho0 (Kd.S_lt (by (with_reducible repeat (first | apply Kd.S_alloc | apply Kd.S_drewN | apply Kd.S_drew)); exact HO195.out))) (below_size (by repeat (first | (with_reducible first | exact HB.out | apply below_alloc | apply pw_below_drewN | apply below_drew1) | exact HB.out)))); have n2_ := Aside0.mk (below_step (by repeat (first | (with_reducible first | exact HB.out | apply below_alloc | apply pw_below_drewN | apply below_drew1) | exact HB.out)) hb); clear HO195; clear HB; have HO195 := n0_; have HO199 := n1_; have HB := n2_; clear n0_ n1_ n2_; (try clear hb); (try clear hb2); (try clear hk); (try clear hi); (try clear ho0)) | (go_at_call 44; (with_reducible refine (impl_RadicalOf.calls k a0 t200 t201 _ A8.out).mono ?_); rintro e w17 ⟨rfl, hb⟩; have n0_ := Aside0.mk (Kd.S_below (by (with_reducible repeat (first | apply Kd.S_alloc | apply Kd.S_drewN | apply Kd.S_drew)); exact HO195.out) hb); have n1_ := Aside0.mk (Kd.S_below (by (with_reducible repeat (first | apply Kd.S_alloc | apply Kd.S_drewN | apply Kd.S_drew)); exact HO199.out) hb); have n2_ := Aside0.mk (below_step (by repeat (first | (with_reducible first | exact HB.out | apply below_alloc | apply pw_below_drewN | apply below_drew1) | exact HB.out)) hb); clear HO195; clear HO199; clear HB; have HO195 := n0_; have HO199 := n1_; have HB := n2_; clear n0_ n1_ n2_; (try clear hb); (try clear hb2); (try clear hk); (try clear hi)) | (go_at_call 45; (with_reducible refine (spec_RadicalOf.calls k a0 t202 t203 _ A9.out).mono ?_); rintro e w18 ⟨rfl, hb⟩; have n0_ := Aside0.mk (Kd.S_below (by (with_reducible repeat (first | apply Kd.S_alloc | apply Kd.S_drewN | apply Kd.S_drew)); exact HO195.out) hb); have n1_ := Aside0.mk (Kd.S_below (by (with_reducible repeat (first | apply Kd.S_alloc | apply Kd.S_drewN | apply Kd.S_drew)); exact HO199.out) hb); have n2_ := Aside0.mk (below_step (by repeat (first | (with_reducible first | exact HB.out | apply below_alloc | apply pw_below_drewN | apply below_drew1) | exact HB.out)) hb); clear HO195; clear HO199; clear HB; have HO195 := n0_; have HO199 := n1_; have HB := n2_; clear n0_ n1_ n2_; (try clear hb); (try clear hb2); (try clear hk); (try clear hi)) | (go_at_call 46; (with_reducible refine (impl_LeastFactor.calls k a0 t204 t205 _ A10.out).mono ?_); rintro e w' ⟨rfl, ⟨nd, rfl⟩⟩; (try first | exact ⟨rfl, _, World.drewN_drewN _ _ _⟩ | exact ⟨rfl, _, Eq.trans (World.drewN_drewN _ _ _) (congrArg (World.drewN _) (Nat.add_assoc _ _ _))⟩)) | (go_at_call 47; (with_reducible refine (spec_LeastFactor.calls k a0 t206 t207 _ A11.out).mono ?_); rintro e w' ⟨rfl, ⟨nd, rfl⟩⟩; (try first | exact ⟨rfl, _, World.drewN_drewN _ _ _⟩ | exact ⟨rfl, _, Eq.trans (World.drewN_drewN _ _ _) (congrArg (World.drewN _) (Nat.add_assoc _ _ _))⟩)) | (go_at_call 48; (with_reducible refine (impl_IsPrime.calls k a0 t208 t209 _ A12.out).mono ?_); rintro e w' ⟨rfl, ⟨nd, rfl⟩⟩; (try first | exact ⟨rfl, _, World.drewN_drewN _ _ _⟩ | exact ⟨rfl, _, Eq.trans (World.drewN_drewN _ _ _) (congrArg (World.drewN _) (Nat.add_assoc _ _ _))⟩)) | (go_at_call 49; (with_reducible refine (spec_IsPrime.calls k a0 t210 t211 _ A13.out).mono ?_); rintro e w' ⟨rfl, ⟨nd, rfl⟩⟩; (try first | exact ⟨rfl, _, World.drewN_drewN _ _ _⟩ | exact ⟨rfl, _, Eq.trans (World.drewN_drewN _ _ _) (congrArg (World.drewN _) (Nat.add_assoc _ _ _))⟩))))
  (try simp only [Act.put, List.setIfInBounds_toArray, List.set_cons_zero, List.set_cons_succ])
  go_cut [146] from 9999 to 9999 (fun v146 wc => ∃ (kq : Nat) (x146_13 : Bool), v146 = .bool x146_13 ∧ Aside0 (laws_FnFactorsToldOfAll.j0 kq a0 l1 a2 a3 t192 t193 t200 t204 t205 t208 x146_13 = some r) ∧ Aside0 (kq ≤ k) ∧ Aside0 (Kd.S (Kd.slice 3 (Kd.int .i64)) 28 wc w.heap.size (fun _ => True) v194 t192) ∧ Aside0 (Below w.heap.size w wc))
  case first =>
   as_aux_lemma =>
   have H := HC14.out
   clear HC14
   have c19 : ¬ ((t193 != t197) = true) := fun c19 => by
    rw [if_pos c19] at H
    exact absurd H (by simp)
   rw [if_neg c19] at H
   have c19b0 : (t193 != t197) = false := by simpa using c19
   (try (have c19b1 : decide (t193 = t197) = true := by simpa using c19))
   (try (have c19b2 : (t193 == t197) = true := by simpa using c19))
   clear c19
   (first | rw [c19b0] | (simp only [i64_w, i32_w]; rw [c19b0]) | skip)
   replace H := Option.bind_eq_some_iff.mp H
   obtain ⟨t212, A200, H⟩ := H
   replace H : (if t212 = true then (if (t201 != t203) = true then (none) else (if t200 = t202 then (if (t205 != t207) = true then (none) else (if t204 = t206 then (if (t209 != t211) = true then (none) else (if (t208 != t210) = true then (none) else (if (t201 != t193) = true then (none) else (if t193 = true then (if (t205 != (decide (a0 > 1))) = true then (none) else (laws_FnFactorsToldOfAll.j0 k a0 l1 a2 a3 t192 t193 t200 t204 t205 t208 (!t209))) else (if (t205 != false) = true then (none) else (laws_FnFactorsToldOfAll.j0 k a0 l1 a2 a3 t192 t193 t200 t204 t205 t208 false)))))) else (none))) else (none))) else (none)) = some r := H
   have A20 := Aside0.mk A200
   clear A200
   have c21 : t212 = true := Classical.byContradiction fun c21 => by
    replace c21 := Bool.eq_false_iff.mpr c21
    subst c21
    have H1 : (none) = some r := by rw [if_neg (show ¬ (false = true) by decide)] at H; exact H
    clear H
    have H := H1
    clear H1
    exact absurd H (by simp)
   subst c21
   have H1 : (if (t201 != t203) = true then (none) else (if t200 = t202 then (if (t205 != t207) = true then (none) else (if t204 = t206 then (if (t209 != t211) = true then (none) else (if (t208 != t210) = true then (none) else (if (t201 != t193) = true then (none) else (if t193 = true then (if (t205 != (decide (a0 > 1))) = true then (none) else (laws_FnFactorsToldOfAll.j0 k a0 l1 a2 a3 t192 t193 t200 t204 t205 t208 (!t209))) else (if (t205 != false) = true then (none) else (laws_FnFactorsToldOfAll.j0 k a0 l1 a2 a3 t192 t193 t200 t204 t205 t208 false)))))) else (none))) else (none))) = some r := by rw [if_pos rfl] at H; exact H
   clear H
   have H := H1
   clear H1
   have c22 : ¬ ((t201 != t203) = true) := fun c22 => by
    rw [if_pos c22] at H
    exact absurd H (by simp)
   rw [if_neg c22] at H
   have c22b0 : (t201 != t203) = false := by simpa using c22
   (try (have c22b1 : decide (t201 = t203) = true := by simpa using c22))
   (try (have c22b2 : (t201 == t203) = true := by simpa using c22))
   clear c22
   have c23 : t200 = t202 := Classical.byContradiction fun c23 => by
    rw [if_neg c23] at H
    exact absurd H (by simp)
   rw [if_pos c23] at H
   have c23b0 : (t200 == t202) = true := beq_iff_eq.mpr c23
   have c23b1 : (t200 != t202) = false := bne_eq_false_iff_eq.mpr c23
   clear c23
   have c24 : ¬ ((t205 != t207) = true) := fun c24 => by
    rw [if_pos c24] at H
    exact absurd H (by simp)
   rw [if_neg c24] at H
   have c24b0 : (t205 != t207) = false := by simpa using c24
   (try (have c24b1 : decide (t205 = t207) = true := by simpa using c24))
   (try (have c24b2 : (t205 == t207) = true := by simpa using c24))
   clear c24
   have c25 : t204 = t206 := Classical.byContradiction fun c25 => by
    rw [if_neg c25] at H
    exact absurd H (by simp)
   rw [if_pos c25] at H
   have c25b0 : (t204 == t206) = true := beq_iff_eq.mpr c25
   have c25b1 : (t204 != t206) = false := bne_eq_false_iff_eq.mpr c25
   clear c25
   have c26 : ¬ ((t209 != t211) = true) := fun c26 => by
    rw [if_pos c26] at H
    exact absurd H (by simp)
   rw [if_neg c26] at H
   have c26b0 : (t209 != t211) = false := by simpa using c26
   (try (have c26b1 : decide (t209 = t211) = true := by simpa using c26))
   (try (have c26b2 : (t209 == t211) = true := by simpa using c26))
   clear c26
   have c27 : ¬ ((t208 != t210) = true) := fun c27 => by
    rw [if_pos c27] at H
    exact absurd H (by simp)
   rw [if_neg c27] at H
   have c27b0 : (t208 != t210) = false := by simpa using c27
   (try (have c27b1 : decide (t208 = t210) = true := by simpa using c27))
   (try (have c27b2 : (t208 == t210) = true := by simpa using c27))
   clear c27
   have c28 : ¬ ((t201 != t193) = true) := fun c28 => by
    rw [if_pos c28] at H
    exact absurd H (by simp)
   rw [if_neg c28] at H
   have c28b0 : (t201 != t193) = false := by simpa using c28
   (try (have c28b1 : decide (t201 = t193) = true := by simpa using c28))
   (try (have c28b2 : (t201 == t193) = true := by simpa using c28))
   clear c28
   by_cases c29 : t193 = true
   ·subst c29
    have H1 : (if (t205 != (decide (a0 > 1))) = true then (none) else (laws_FnFactorsToldOfAll.j0 k a0 l1 a2 a3 t192 true t200 t204 t205 t208 (!t209))) = some r := by rw [if_pos rfl] at H; exact H
    clear H
    have H := H1
    clear H1
    have c30 : ¬ ((t205 != (decide (a0 > 1))) = true) := fun c30 => by
     rw [if_pos c30] at H
     exact absurd H (by simp)
    rw [if_neg c30] at H
    have c30b0 : (t205 != (decide (a0 > 1))) = false := by simpa using c30
    (try (have c30b1 : decide (t205 = (decide (a0 > 1))) = true := by simpa using c30))
    (try (have c30b2 : (t205 == (decide (a0 > 1))) = true := by simpa using c30))
    clear c30
    have H' := Aside0.mk H
    clear H
    obtain ⟨Ao31, co31, eo31⟩ := Kd.S_slice HO195.out
    subst eo31
    obtain ⟨Ao32, co32, eo32⟩ := Kd.S_slice HO199.out
    subst eo32
    go_wp2_with (first | (go_at_call 50; (with_reducible refine (laws_gLists.calls k _ _ t192 _ _ t196 true _ ?side1 ?side2 ?side3 ?side4 A20.out).mono ?_); (case side1 => repeat (first | exact (Kd.S_reads' HO195.out).2.2 | (with_reducible refine Kd.C_alloc ?_ _) | (with_reducible refine Kd.C_drewN ?_ _) | (with_reducible refine Kd.C_drew ?_))); (case side2 => exact (Kd.S_reads' HO195.out).2.1); (case side3 => repeat (first | exact (Kd.S_reads' HO199.out).2.2 | (with_reducible refine Kd.C_alloc ?_ _) | (with_reducible refine Kd.C_drewN ?_ _) | (with_reducible refine Kd.C_drew ?_))); (case side4 => exact (Kd.S_reads' HO199.out).2.1); rintro e w' ⟨rfl, ⟨nd, rfl⟩⟩; (try first | exact ⟨rfl, _, World.drewN_drewN _ _ _⟩ | exact ⟨rfl, _, Eq.trans (World.drewN_drewN _ _ _) (congrArg (World.drewN _) (Nat.add_assoc _ _ _))⟩)))
    repeat (go_quiet (first | (go_at_call 50; (with_reducible refine (laws_gLists.calls k _ _ t192 _ _ t196 true _ ?side1 ?side2 ?side3 ?side4 A20.out).mono ?_); (case side1 => repeat (first | exact (Kd.S_reads' HO195.out).2.2 | (with_reducible refine Kd.C_alloc ?_ _) | (with_reducible refine Kd.C_drewN ?_ _) | (with_reducible refine Kd.C_drew ?_))); (case side2 => exact (Kd.S_reads' HO195.out).2.1); (case side3 => repeat (first | exact (Kd.S_reads' HO199.out).2.2 | (with_reducible refine Kd.C_alloc ?_ _) | (with_reducible refine Kd.C_drewN ?_ _) | (with_reducible refine Kd.C_drew ?_))); (case side4 => exact (Kd.S_reads' HO199.out).2.1); rintro e w' ⟨rfl, ⟨nd, rfl⟩⟩; (try first | exact ⟨rfl, _, World.drewN_drewN _ _ _⟩ | exact ⟨rfl, _, Eq.trans (World.drewN_drewN _ _ _) (congrArg (World.drewN _) (Nat.add_assoc _ _ _))⟩))); try go_wp2_with (first | (go_at_call 50; (with_reducible refine (laws_gLists.calls k _ _ t192 _ _ t196 true _ ?side1 ?side2 ?side3 ?side4 A20.out).mono ?_); (case side1 => repeat (first | exact (Kd.S_reads' HO195.out).2.2 | (with_reducible refine Kd.C_alloc ?_ _) | (with_reducible refine Kd.C_drewN ?_ _) | (with_reducible refine Kd.C_drew ?_))); (case side2 => exact (Kd.S_reads' HO195.out).2.1); (case side3 => repeat (first | exact (Kd.S_reads' HO199.out).2.2 | (with_reducible refine Kd.C_alloc ?_ _) | (with_reducible refine Kd.C_drewN ?_ _) | (with_reducible refine Kd.C_drew ?_))); (case side4 => exact (Kd.S_reads' HO199.out).2.1); rintro e w' ⟨rfl, ⟨nd, rfl⟩⟩; (try first | exact ⟨rfl, _, World.drewN_drewN _ _ _⟩ | exact ⟨rfl, _, Eq.trans (World.drewN_drewN _ _ _) (congrArg (World.drewN _) (Nat.add_assoc _ _ _))⟩))))
    go_meet
    case rel => exact ⟨_, (!t209), (by first | rfl | (simp; done) | (simp [*]; done)), H', ⟨by first | omega | exact Nat.le_refl _⟩, ⟨by (with_reducible repeat (first | apply Kd.S_alloc | apply Kd.S_drewN | apply Kd.S_drew)); exact Kd.S_mono HO195.out (fun _ hk => trivial)⟩, ⟨by repeat (first | (with_reducible first | exact HB.out | apply below_alloc | apply pw_below_drewN | apply below_drew1) | exact HB.out)⟩⟩
   ·replace c29 := Bool.eq_false_iff.mpr c29
    subst c29
    have H1 : (if (t205 != false) = true then (none) else (laws_FnFactorsToldOfAll.j0 k a0 l1 a2 a3 t192 false t200 t204 t205 t208 false)) = some r := by rw [if_neg (show ¬ (false = true) by decide)] at H; exact H
    clear H
    have H := H1
    clear H1
    have c33 : ¬ ((t205 != false) = true) := fun c33 => by
     rw [if_pos c33] at H
     exact absurd H (by simp)
    rw [if_neg c33] at H
    have hT_ : t205 = false := by simpa using c33
    clear c33
    subst hT_
    have H' := Aside0.mk H
    clear H
    obtain ⟨Ao34, co34, eo34⟩ := Kd.S_slice HO195.out
    subst eo34
    obtain ⟨Ao35, co35, eo35⟩ := Kd.S_slice HO199.out
    subst eo35
    go_wp2_with (first | (go_at_call 50; (with_reducible refine (laws_gLists.calls k _ _ t192 _ _ t196 true _ ?side1 ?side2 ?side3 ?side4 A20.out).mono ?_); (case side1 => repeat (first | exact (Kd.S_reads' HO195.out).2.2 | (with_reducible refine Kd.C_alloc ?_ _) | (with_reducible refine Kd.C_drewN ?_ _) | (with_reducible refine Kd.C_drew ?_))); (case side2 => exact (Kd.S_reads' HO195.out).2.1); (case side3 => repeat (first | exact (Kd.S_reads' HO199.out).2.2 | (with_reducible refine Kd.C_alloc ?_ _) | (with_reducible refine Kd.C_drewN ?_ _) | (with_reducible refine Kd.C_drew ?_))); (case side4 => exact (Kd.S_reads' HO199.out).2.1); rintro e w' ⟨rfl, ⟨nd, rfl⟩⟩; (try first | exact ⟨rfl, _, World.drewN_drewN _ _ _⟩ | exact ⟨rfl, _, Eq.trans (World.drewN_drewN _ _ _) (congrArg (World.drewN _) (Nat.add_assoc _ _ _))⟩)))
    repeat (go_quiet (first | (go_at_call 50; (with_reducible refine (laws_gLists.calls k _ _ t192 _ _ t196 true _ ?side1 ?side2 ?side3 ?side4 A20.out).mono ?_); (case side1 => repeat (first | exact (Kd.S_reads' HO195.out).2.2 | (with_reducible refine Kd.C_alloc ?_ _) | (with_reducible refine Kd.C_drewN ?_ _) | (with_reducible refine Kd.C_drew ?_))); (case side2 => exact (Kd.S_reads' HO195.out).2.1); (case side3 => repeat (first | exact (Kd.S_reads' HO199.out).2.2 | (with_reducible refine Kd.C_alloc ?_ _) | (with_reducible refine Kd.C_drewN ?_ _) | (with_reducible refine Kd.C_drew ?_))); (case side4 => exact (Kd.S_reads' HO199.out).2.1); rintro e w' ⟨rfl, ⟨nd, rfl⟩⟩; (try first | exact ⟨rfl, _, World.drewN_drewN _ _ _⟩ | exact ⟨rfl, _, Eq.trans (World.drewN_drewN _ _ _) (congrArg (World.drewN _) (Nat.add_assoc _ _ _))⟩))); try go_wp2_with (first | (go_at_call 50; (with_reducible refine (laws_gLists.calls k _ _ t192 _ _ t196 true _ ?side1 ?side2 ?side3 ?side4 A20.out).mono ?_); (case side1 => repeat (first | exact (Kd.S_reads' HO195.out).2.2 | (with_reducible refine Kd.C_alloc ?_ _) | (with_reducible refine Kd.C_drewN ?_ _) | (with_reducible refine Kd.C_drew ?_))); (case side2 => exact (Kd.S_reads' HO195.out).2.1); (case side3 => repeat (first | exact (Kd.S_reads' HO199.out).2.2 | (with_reducible refine Kd.C_alloc ?_ _) | (with_reducible refine Kd.C_drewN ?_ _) | (with_reducible refine Kd.C_drew ?_))); (case side4 => exact (Kd.S_reads' HO199.out).2.1); rintro e w' ⟨rfl, ⟨nd, rfl⟩⟩; (try first | exact ⟨rfl, _, World.drewN_drewN _ _ _⟩ | exact ⟨rfl, _, Eq.trans (World.drewN_drewN _ _ _) (congrArg (World.drewN _) (Nat.add_assoc _ _ _))⟩))))
    go_meet
    case rel => exact ⟨_, (false), (by first | rfl | (simp; done) | (simp [*]; done)), H', ⟨by first | omega | exact Nat.le_refl _⟩, ⟨by (with_reducible repeat (first | apply Kd.S_alloc | apply Kd.S_drewN | apply Kd.S_drew)); exact Kd.S_mono HO195.out (fun _ hk => trivial)⟩, ⟨by repeat (first | (with_reducible first | exact HB.out | apply below_alloc | apply pw_below_drewN | apply below_drew1) | exact HB.out)⟩⟩
  case rest =>
   as_aux_lemma =>
   clear HC14
   try clear c1
   try clear c2
   try clear p2
   try clear c3
   try clear c5
   try clear c5b0
   try clear c5b1
   try clear c12
   try clear c19
   try clear c19b0
   try clear c19b1
   try clear c19b2
   try clear c21
   try clear c22
   try clear c22b0
   try clear c22b1
   try clear c22b2
   try clear c23
   try clear c23b0
   try clear c23b1
   try clear c24
   try clear c24b0
   try clear c24b1
   try clear c24b2
   try clear c25
   try clear c25b0
   try clear c25b1
   try clear c26
   try clear c26b0
   try clear c26b1
   try clear c26b2
   try clear c27
   try clear c27b0
   try clear c27b1
   try clear c27b2
   try clear c28
   try clear c28b0
   try clear c28b1
   try clear c28b2
   try clear c29
   try clear c30
   try clear c30b0
   try clear c30b1
   try clear c30b2
   try clear c33
   try clear c33b0
   try clear c33b1
   try clear c33b2
   obtain ⟨kq, x146_13, rfl, HA, HJ13, HO_9, HB⟩ := hcut
   cases kq with
   | zero => exact absurd HA.out (by simp [laws_FnFactorsToldOfAll.j0])
   | succ kj13 =>
    have H := HA.out
    clear HA
    simp only [laws_FnFactorsToldOfAll.j0] at H
    have c36 : ¬ (x146_13 = true) := fun c36 => by
     subst c36
     have H1 : (none) = some r := by rw [if_pos rfl] at H; exact H
     clear H
     have H := H1
     clear H1
     exact absurd H (by simp)
    replace c36 := Bool.eq_false_iff.mpr c36
    subst c36
    have H1 : (if t193 = true then ((impl_NumberOfFactors.f kj13 t192).bind fun bt213 => (if bt213.2 = true then (if bt213.1 = a0 then (if (t192.length : Int) = 1 then (if 0 < (t192.length : Int) then (if 1 < ((rd_L1 t192 0).length : Int) then (if (t208 != ((rd (rd_L1 t192 0) 1) == 1)) = true then (none) else (if t200 = 0 then (none) else (if (Int.tmod a0 t200) = 0 then (if t205 = true then (if 0 < ((rd_L1 t192 0).length : Int) then (if t204 = (rd (rd_L1 t192 0) 0) then (if t204 = 0 then (none) else (laws_FnFactorsToldOfAll.j1 kj13 a0 l1 a2 a3 t192 t200 ((Int.tmod a0 t204) != 0))) else (none)) else (none)) else (laws_FnFactorsToldOfAll.j1 kj13 a0 l1 a2 a3 t192 t200 false)) else (none)))) else (none)) else (none)) else (if (t208 != false) = true then (none) else (if t200 = 0 then (none) else (if (Int.tmod a0 t200) = 0 then (if t205 = true then (if 0 < (t192.length : Int) then (if 0 < ((rd_L1 t192 0).length : Int) then (if t204 = (rd (rd_L1 t192 0) 0) then (if t204 = 0 then (none) else (laws_FnFactorsToldOfAll.j1 kj13 a0 l1 a2 a3 t192 t200 ((Int.tmod a0 t204) != 0))) else (none)) else (none)) else (none)) else (laws_FnFactorsToldOfAll.j1 kj13 a0 l1 a2 a3 t192 t200 false)) else (none))))) else (none)) else (none))) else (laws_FnFactorsToldOfAll.j3 kj13 l1 a2 a3)) = some r := by rw [if_neg (show ¬ (false = true) by decide)] at H; exact H
    clear H
    have H := H1
    clear H1
    have HC37 := Aside0.mk H
    clear H
    go_upto_if 147 with (fail)
    repeat (go_quiet (fail); go_upto_if 147 with (fail))
    go_cut [] from 9999 to 9999 (fun wc => ∃ (kq : Nat), Aside0 (laws_FnFactorsToldOfAll.j3 kq l1 a2 a3 = some r) ∧ Aside0 (kq ≤ kj13) ∧ Aside0 (Below w.heap.size w wc))
    case first =>
     as_aux_lemma =>
     have H := HC37.out
     clear HC37
     by_cases c38 : t193 = true
     ·subst c38
      have H1 : ((impl_NumberOfFactors.f kj13 t192).bind fun bt213 => (if bt213.2 = true then (if bt213.1 = a0 then (if (t192.length : Int) = 1 then (if 0 < (t192.length : Int) then (if 1 < ((rd_L1 t192 0).length : Int) then (if (t208 != ((rd (rd_L1 t192 0) 1) == 1)) = true then (none) else (if t200 = 0 then (none) else (if (Int.tmod a0 t200) = 0 then (if t205 = true then (if 0 < ((rd_L1 t192 0).length : Int) then (if t204 = (rd (rd_L1 t192 0) 0) then (if t204 = 0 then (none) else (laws_FnFactorsToldOfAll.j1 kj13 a0 l1 a2 a3 t192 t200 ((Int.tmod a0 t204) != 0))) else (none)) else (none)) else (laws_FnFactorsToldOfAll.j1 kj13 a0 l1 a2 a3 t192 t200 false)) else (none)))) else (none)) else (none)) else (if (t208 != false) = true then (none) else (if t200 = 0 then (none) else (if (Int.tmod a0 t200) = 0 then (if t205 = true then (if 0 < (t192.length : Int) then (if 0 < ((rd_L1 t192 0).length : Int) then (if t204 = (rd (rd_L1 t192 0) 0) then (if t204 = 0 then (none) else (laws_FnFactorsToldOfAll.j1 kj13 a0 l1 a2 a3 t192 t200 ((Int.tmod a0 t204) != 0))) else (none)) else (none)) else (none)) else (laws_FnFactorsToldOfAll.j1 kj13 a0 l1 a2 a3 t192 t200 false)) else (none))))) else (none)) else (none))) = some r := by rw [if_pos rfl] at H; exact H
      clear H
      have H := H1
      clear H1
      replace H := Option.bind_eq_some_iff.mp H
      obtain ⟨⟨t213, t214⟩, A390, H⟩ := H
      replace H : (if t214 = true then (if t213 = a0 then (if (t192.length : Int) = 1 then (if 0 < (t192.length : Int) then (if 1 < ((rd_L1 t192 0).length : Int) then (if (t208 != ((rd (rd_L1 t192 0) 1) == 1)) = true then (none) else (if t200 = 0 then (none) else (if (Int.tmod a0 t200) = 0 then (if t205 = true then (if 0 < ((rd_L1 t192 0).length : Int) then (if t204 = (rd (rd_L1 t192 0) 0) then (if t204 = 0 then (none) else (laws_FnFactorsToldOfAll.j1 kj13 a0 l1 a2 a3 t192 t200 ((Int.tmod a0 t204) != 0))) else (none)) else (none)) else (laws_FnFactorsToldOfAll.j1 kj13 a0 l1 a2 a3 t192 t200 false)) else (none)))) else (none)) else (none)) else (if (t208 != false) = true then (none) else (if t200 = 0 then (none) else (if (Int.tmod a0 t200) = 0 then (if t205 = true then (if 0 < (t192.length : Int) then (if 0 < ((rd_L1 t192 0).length : Int) then (if t204 = (rd (rd_L1 t192 0) 0) then (if t204 = 0 then (none) else (laws_FnFactorsToldOfAll.j1 kj13 a0 l1 a2 a3 t192 t200 ((Int.tmod a0 t204) != 0))) else (none)) else (none)) else (none)) else (laws_FnFactorsToldOfAll.j1 kj13 a0 l1 a2 a3 t192 t200 false)) else (none))))) else (none)) else (none)) = some r := H
      have A39 := Aside0.mk A390
      clear A390
      have HC40 := Aside0.mk H
      clear H
      obtain ⟨Ao41, co41, eo41⟩ := Kd.S_slice HO_9.out
      subst eo41
      go_upto_region 15 with (first | (go_at_call 39; (with_reducible refine (impl_NumberOfFactors.calls kj13 _ _ t192 t213 t214 _ ?side1 ?side2 A39.out).mono ?_); (case side1 => repeat (first | exact (Kd.S_reads' HO_9.out).2.2 | (with_reducible refine Kd.C_alloc ?_ _) | (with_reducible refine Kd.C_drewN ?_ _) | (with_reducible refine Kd.C_drew ?_))); (case side2 => exact (Kd.S_reads' HO_9.out).2.1); rintro e w42 ⟨rfl, hb⟩; have n0_ := Aside0.mk (Kd.S_below (by (with_reducible repeat (first | apply Kd.S_alloc | apply Kd.S_drewN | apply Kd.S_drew)); exact HO_9.out) hb); have n1_ := Aside0.mk (below_step (by repeat (first | (with_reducible first | exact HB.out | apply below_alloc | apply pw_below_drewN | apply below_drew1) | exact HB.out)) hb); clear HO_9; clear HB; have HO_9 := n0_; have HB := n1_; clear n0_ n1_; (try clear hb); (try clear hb2); (try clear hk); (try clear hi)))
      repeat (go_quiet (first | (go_at_call 39; (with_reducible refine (impl_NumberOfFactors.calls kj13 _ _ t192 t213 t214 _ ?side1 ?side2 A39.out).mono ?_); (case side1 => repeat (first | exact (Kd.S_reads' HO_9.out).2.2 | (with_reducible refine Kd.C_alloc ?_ _) | (with_reducible refine Kd.C_drewN ?_ _) | (with_reducible refine Kd.C_drew ?_))); (case side2 => exact (Kd.S_reads' HO_9.out).2.1); rintro e w42 ⟨rfl, hb⟩; have n0_ := Aside0.mk (Kd.S_below (by (with_reducible repeat (first | apply Kd.S_alloc | apply Kd.S_drewN | apply Kd.S_drew)); exact HO_9.out) hb); have n1_ := Aside0.mk (below_step (by repeat (first | (with_reducible first | exact HB.out | apply below_alloc | apply pw_below_drewN | apply below_drew1) | exact HB.out)) hb); clear HO_9; clear HB; have HO_9 := n0_; have HB := n1_; clear n0_ n1_; (try clear hb); (try clear hb2); (try clear hk); (try clear hi))); go_upto_region 15 with (first | (go_at_call 39; (with_reducible refine (impl_NumberOfFactors.calls kj13 _ _ t192 t213 t214 _ ?side1 ?side2 A39.out).mono ?_); (case side1 => repeat (first | exact (Kd.S_reads' HO_9.out).2.2 | (with_reducible refine Kd.C_alloc ?_ _) | (with_reducible refine Kd.C_drewN ?_ _) | (with_reducible refine Kd.C_drew ?_))); (case side2 => exact (Kd.S_reads' HO_9.out).2.1); rintro e w42 ⟨rfl, hb⟩; have n0_ := Aside0.mk (Kd.S_below (by (with_reducible repeat (first | apply Kd.S_alloc | apply Kd.S_drewN | apply Kd.S_drew)); exact HO_9.out) hb); have n1_ := Aside0.mk (below_step (by repeat (first | (with_reducible first | exact HB.out | apply below_alloc | apply pw_below_drewN | apply below_drew1) | exact HB.out)) hb); clear HO_9; clear HB; have HO_9 := n0_; have HB := n1_; clear n0_ n1_; (try clear hb); (try clear hb2); (try clear hk); (try clear hi))))
      (try simp only [Act.put, List.setIfInBounds_toArray, List.set_cons_zero, List.set_cons_succ])
      go_cut [198] from 9999 to 9999 (fun v198 wc => ∃ (kq : Nat) (x198_39 : Bool), v198 = .bool x198_39 ∧ Aside0 (laws_FnFactorsToldOfAll.j1 kq a0 l1 a2 a3 t192 t200 x198_39 = some r) ∧ Aside0 (kq ≤ kj13) ∧ Aside0 (Kd.S (Kd.slice 3 (Kd.int .i64)) 28 wc w.heap.size (fun _ => True) (.slice Ao41 t192.length co41) t192) ∧ Aside0 (Below w.heap.size w wc))
      case first =>
       as_aux_lemma =>
       have H := HC40.out
       clear HC40
       have c43 : t214 = true := Classical.byContradiction fun c43 => by
        replace c43 := Bool.eq_false_iff.mpr c43
        subst c43
        have H1 : (none) = some r := by rw [if_neg (show ¬ (false = true) by decide)] at H; exact H
        clear H
        have H := H1
        clear H1
        exact absurd H (by simp)
       subst c43
       have H1 : (if t213 = a0 then (if (t192.length : Int) = 1 then (if 0 < (t192.length : Int) then (if 1 < ((rd_L1 t192 0).length : Int) then (if (t208 != ((rd (rd_L1 t192 0) 1) == 1)) = true then (none) else (if t200 = 0 then (none) else (if (Int.tmod a0 t200) = 0 then (if t205 = true then (if 0 < ((rd_L1 t192 0).length : Int) then (if t204 = (rd (rd_L1 t192 0) 0) then (if t204 = 0 then (none) else (laws_FnFactorsToldOfAll.j1 kj13 a0 l1 a2 a3 t192 t200 ((Int.tmod a0 t204) != 0))) else (none)) else (none)) else (laws_FnFactorsToldOfAll.j1 kj13 a0 l1 a2 a3 t192 t200 false)) else (none)))) else (none)) else (none)) else (if (t208 != false) = true then (none) else (if t200 = 0 then (none) else (if (Int.tmod a0 t200) = 0 then (if t205 = true then (if 0 < (t192.length : Int) then (if 0 < ((rd_L1 t192 0).length : Int) then (if t204 = (rd (rd_L1 t192 0) 0) then (if t204 = 0 then (none) else (laws_FnFactorsToldOfAll.j1 kj13 a0 l1 a2 a3 t192 t200 ((Int.tmod a0 t204) != 0))) else (none)) else (none)) else (none)) else (laws_FnFactorsToldOfAll.j1 kj13 a0 l1 a2 a3 t192 t200 false)) else (none))))) else (none)) = some r := by rw [if_pos rfl] at H; exact H
       clear H
       have H := H1
       clear H1
       have c44 : t213 = a0 := Classical.byContradiction fun c44 => by
        rw [if_neg c44] at H
        exact absurd H (by simp)
       rw [if_pos c44] at H
       have c44b0 : (t213 == a0) = true := beq_iff_eq.mpr c44
       have c44b1 : (t213 != a0) = false := bne_eq_false_iff_eq.mpr c44
       clear c44
       (first | rw [c44b0] | (simp only [i64_w, i32_w]; rw [c44b0]) | skip)
       by_cases c45 : (t192.length : Int) = 1
       ·as_aux_lemma =>
        rw [if_pos c45] at H
        have c45b0 : ((t192.length : Int) == 1) = true := beq_iff_eq.mpr c45
        have c45b1 : ((t192.length : Int) != 1) = false := bne_eq_false_iff_eq.mpr c45
        clear c45
        have c46 : 0 < (t192.length : Int) := Classical.byContradiction fun c46 => by
         rw [if_neg c46] at H
         exact absurd H (by simp)
        rw [if_pos c46] at H
        have c46b0 : decide (0 < (t192.length : Int)) = true := decide_eq_true c46
        have c46b1 : decide (0 < t192.length) = true := decide_eq_true (by omega)
        clear c46
        have c47 : 1 < ((rd_L1 t192 0).length : Int) := Classical.byContradiction fun c47 => by
         rw [if_neg c47] at H
         exact absurd H (by simp)
        rw [if_pos c47] at H
        have c47b0 : decide (1 < ((rd_L1 t192 0).length : Int)) = true := decide_eq_true c47
        have c47b1 : decide (1 < (rd_L1 t192 0).length) = true := decide_eq_true (by omega)
        clear c47
        have c48 : ¬ ((t208 != ((rd (rd_L1 t192 0) 1) == 1)) = true) := fun c48 => by
         rw [if_pos c48] at H
         exact absurd H (by simp)
        rw [if_neg c48] at H
        have c48b0 : (t208 != ((rd (rd_L1 t192 0) 1) == 1)) = false := by simpa using c48
        (try (have c48b1 : decide (t208 = ((rd (rd_L1 t192 0) 1) == 1)) = true := by simpa using c48))
        (try (have c48b2 : (t208 == ((rd (rd_L1 t192 0) 1) == 1)) = true := by simpa using c48))
        clear c48
        have c49 : ¬ (t200 = 0) := fun c49 => by
         rw [if_pos c49] at H
         exact absurd H (by simp)
        rw [if_neg c49] at H
        have c49b0 : (t200 == 0) = false := beq_eq_false_iff_ne.mpr c49
        have c49b1 : (t200 != 0) = true := bne_iff_ne.mpr c49
        have c50 : (Int.tmod a0 t200) = 0 := Classical.byContradiction fun c50 => by
         rw [if_neg c50] at H
         exact absurd H (by simp)
        rw [if_pos c50] at H
        have c50b0 : ((Int.tmod a0 t200) == 0) = true := beq_iff_eq.mpr c50
        have c50b1 : ((Int.tmod a0 t200) != 0) = false := bne_eq_false_iff_eq.mpr c50
        clear c50
        by_cases c51 : t205 = true
        ·subst c51
         have H1 : (if 0 < ((rd_L1 t192 0).length : Int) then (if t204 = (rd (rd_L1 t192 0) 0) then (if t204 = 0 then (none) else (laws_FnFactorsToldOfAll.j1 kj13 a0 l1 a2 a3 t192 t200 ((Int.tmod a0 t204) != 0))) else (none)) else (none)) = some r := by rw [if_pos rfl] at H; exact H
         clear H
         have H := H1
         clear H1
         have c52 : 0 < ((rd_L1 t192 0).length : Int) := Classical.byContradiction fun c52 => by
          rw [if_neg c52] at H
          exact absurd H (by simp)
         rw [if_pos c52] at H
         have c52b0 : decide (0 < ((rd_L1 t192 0).length : Int)) = true := decide_eq_true c52
         have c52b1 : decide (0 < (rd_L1 t192 0).length) = true := decide_eq_true (by omega)
         clear c52
         have c53 : t204 = (rd (rd_L1 t192 0) 0) := Classical.byContradiction fun c53 => by
          rw [if_neg c53] at H
          exact absurd H (by simp)
         rw [if_pos c53] at H
         have c53b0 : (t204 == (rd (rd_L1 t192 0) 0)) = true := beq_iff_eq.mpr c53
         have c53b1 : (t204 != (rd (rd_L1 t192 0) 0)) = false := bne_eq_false_iff_eq.mpr c53
         clear c53
         have c54 : ¬ (t204 = 0) := fun c54 => by
          rw [if_pos c54] at H
          exact absurd H (by simp)
         rw [if_neg c54] at H
         have c54b0 : (t204 == 0) = false := beq_eq_false_iff_ne.mpr c54
         have c54b1 : (t204 != 0) = true := bne_iff_ne.mpr c54
         have H' := Aside0.mk H
         clear H
         have p215 : 0 ≤ (0 : Int) := (by omega)
         have q215 : 0 < (t192.length : Int) := of_decide_eq_true (by first | (with_reducible assumption) | assumption)
         obtain ⟨ad215, A215_0, c215_0, e215, hx215_0, hl215_0, hi215_0⟩ := at_L1 (Kd.S_reads' HO_9.out).2.2 0 p215 q215
         cases e215
         obtain ⟨ce215, hce215, hMe215, hcc215⟩ := Kd.S_get HO_9.out [] 0 p215 (by first | exact q215 | exact of_decide_eq_true (by first | (with_reducible assumption) | assumption) | (have e_ := (Kd.S_reads' HO_9.out).1; omega))
         obtain ⟨ve215_0, rfl, ge215_0⟩ := hMe215
         have hv215_0 := hcc215 0 _ rfl
         rw [Nat.add_zero, show ((Kd.slice 3 (Kd.int .i64))).sz = 1 from rfl, Nat.mul_one] at hv215_0
         replace hv215_0 := Option.some.inj (hv215_0.symm.trans hx215_0)
         rw [hv215_0] at ge215_0
         have HL215_0 := Aside0.mk (show Kd.R (Kd.int .i64) 3 _ _ _ _ (rd_L1 t192 0) from ge215_0)
         clear hv215_0 ge215_0
         clear hcc215 hce215
         have qi215 : (0 < t192.length) = True := eq_true (by omega)
         (try rw [show ((0 : Int)).toNat = 0 from rfl] at hx215_0)
         (try rw [Addr.add_zero'] at hx215_0)
         have HR215_0 := Aside0.mk hi215_0
         have HC215_0 := Aside0.mk hl215_0
         clear hi215_0 hl215_0
         replace p215 := eq_true p215
         replace q215 := eq_true q215
         have p216 : 0 ≤ (1 : Int) := (by omega)
         have q216 : 1 < ((rd_L1 t192 0).length : Int) := of_decide_eq_true (by first | (with_reducible assumption) | assumption)
         obtain ⟨ad216, e216, hx216_0⟩ := Kd.at_int (by repeat (first | (with_reducible exact HR215_0.out) | (with_reducible refine Kd.C_alloc ?_ _) | (with_reducible refine Kd.C_drewN ?_ _) | (with_reducible refine Kd.C_drew ?_) | exact HR215_0.out)) 1 p216 q216
         cases e216
         (try simp only [show (1 : Int).toNat = 1 from rfl, Nat.reduceMul, Nat.reduceEqDiff, Go.Addr.add, ↓reduceIte] at hx216_0)
         have qi216 : (1 < (rd_L1 t192 0).length) = True := eq_true (by omega)
         (try rw [show ((1 : Int)).toNat = 1 from rfl] at hx216_0)
         replace p216 := eq_true p216
         replace q216 := eq_true q216
         have p217 : 0 ≤ (0 : Int) := (by omega)
         have q217 : 0 < (t192.length : Int) := of_decide_eq_true (by first | (with_reducible assumption) | assumption)
         obtain ⟨ad217, A217_0, c217_0, e217, hx217_0, hl217_0, hi217_0⟩ := at_L1 (Kd.S_reads' HO_9.out).2.2 0 p217 q217
         obtain rfl : ad215 = ad217 := (by injection e217)
         obtain ⟨ce217, hce217, hMe217, hcc217⟩ := Kd.S_get HO_9.out [] 0 p217 (by first | exact q217 | exact of_decide_eq_true (by first | (with_reducible assumption) | assumption) | (have e_ := (Kd.S_reads' HO_9.out).1; omega))
         obtain ⟨ve217_0, rfl, ge217_0⟩ := hMe217
         have hv217_0 := hcc217 0 _ rfl
         rw [Nat.add_zero, show ((Kd.slice 3 (Kd.int .i64))).sz = 1 from rfl, Nat.mul_one] at hv217_0
         replace hv217_0 := Option.some.inj (hv217_0.symm.trans hx217_0)
         rw [hv217_0] at ge217_0
         have HL217_0 := Aside0.mk (show Kd.R (Kd.int .i64) 3 _ _ _ _ (rd_L1 t192 0) from ge217_0)
         clear hv217_0 ge217_0
         clear hcc217 hce217
         have qi217 : (0 < t192.length) = True := eq_true (by omega)
         (try rw [show ((0 : Int)).toNat = 0 from rfl] at hx217_0)
         (try rw [Addr.add_zero'] at hx217_0)
         have HR217_0 := Aside0.mk hi217_0
         have HC217_0 := Aside0.mk hl217_0
         clear hi217_0 hl217_0
         replace p217 := eq_true p217
         replace q217 := eq_true q217
         have ea_ := Option.some.inj (hx215_0.symm.trans hx217_0)
         injection ea_ with ea_ en_ ec_
         subst ea_
         subst ec_
         clear en_
         have p218 : 0 ≤ (0 : Int) := (by omega)
         have q218 : 0 < ((rd_L1 t192 0).length : Int) := of_decide_eq_true (by first | (with_reducible assumption) | assumption)
         obtain ⟨ad218, e218, hx218_0⟩ := Kd.at_int (by repeat (first | (with_reducible exact HR217_0.out) | (with_reducible refine Kd.C_alloc ?_ _) | (with_reducible refine Kd.C_drewN ?_ _) | (with_reducible refine Kd.C_drew ?_) | exact HR217_0.out)) 0 p218 q218
         cases e218
         have qi218 : (0 < (rd_L1 t192 0).length) = True := eq_true (by omega)
         (try rw [show ((0 : Int)).toNat = 0 from rfl] at hx218_0)
         (try rw [Addr.add_zero'] at hx218_0)
         replace p218 := eq_true p218
         replace q218 := eq_true q218
         go_wp2
         repeat (go_quiet (fail); try go_wp2)
         go_meet
         case rel => exact ⟨_, (((Int.tmod a0 t204) != 0)), (by first | rfl | (simp; done) | (simp [*]; done)), H', ⟨by have := HJ13.out; first | omega | exact Nat.le_refl _⟩, ⟨by (with_reducible repeat (first | apply Kd.S_alloc | apply Kd.S_drewN | apply Kd.S_drew)); exact HO_9.out⟩, ⟨by repeat (first | (with_reducible first | exact HB.out | apply below_alloc | apply pw_below_drewN | apply below_drew1) | exact HB.out)⟩⟩
        ·replace c51 := Bool.eq_false_iff.mpr c51
         subst c51
         have H1 : (laws_FnFactorsToldOfAll.j1 kj13 a0 l1 a2 a3 t192 t200 false) = some r := by rw [if_neg (show ¬ (false = true) by decide)] at H; exact H
         clear H
         have H := H1
         clear H1
         have H' := Aside0.mk H
         clear H
         have p215 : 0 ≤ (0 : Int) := (by omega)
         have q215 : 0 < (t192.length : Int) := of_decide_eq_true (by first | (with_reducible assumption) | assumption)
         obtain ⟨ad215, A215_0, c215_0, e215, hx215_0, hl215_0, hi215_0⟩ := at_L1 (Kd.S_reads' HO_9.out).2.2 0 p215 q215
         cases e215
         obtain ⟨ce215, hce215, hMe215, hcc215⟩ := Kd.S_get HO_9.out [] 0 p215 (by first | exact q215 | exact of_decide_eq_true (by first | (with_reducible assumption) | assumption) | (have e_ := (Kd.S_reads' HO_9.out).1; omega))
         obtain ⟨ve215_0, rfl, ge215_0⟩ := hMe215
         have hv215_0 := hcc215 0 _ rfl
         rw [Nat.add_zero, show ((Kd.slice 3 (Kd.int .i64))).sz = 1 from rfl, Nat.mul_one] at hv215_0
         replace hv215_0 := Option.some.inj (hv215_0.symm.trans hx215_0)
         rw [hv215_0] at ge215_0
         have HL215_0 := Aside0.mk (show Kd.R (Kd.int .i64) 3 _ _ _ _ (rd_L1 t192 0) from ge215_0)
         clear hv215_0 ge215_0
         clear hcc215 hce215
         have qi215 : (0 < t192.length) = True := eq_true (by omega)
         (try rw [show ((0 : Int)).toNat = 0 from rfl] at hx215_0)
         (try rw [Addr.add_zero'] at hx215_0)
         have HR215_0 := Aside0.mk hi215_0
         have HC215_0 := Aside0.mk hl215_0
         clear hi215_0 hl215_0
         replace p215 := eq_true p215
         replace q215 := eq_true q215
         have p216 : 0 ≤ (1 : Int) := (by omega)
         have q216 : 1 < ((rd_L1 t192 0).length : Int) := of_decide_eq_true (by first | (with_reducible assumption) | assumption)
         obtain ⟨ad216, e216, hx216_0⟩ := Kd.at_int (by repeat (first | (with_reducible exact HR215_0.out) | (with_reducible refine Kd.C_alloc ?_ _) | (with_reducible refine Kd.C_drewN ?_ _) | (with_reducible refine Kd.C_drew ?_) | exact HR215_0.out)) 1 p216 q216
         cases e216
         (try simp only [show (1 : Int).toNat = 1 from rfl, Nat.reduceMul, Nat.reduceEqDiff, Go.Addr.add, ↓reduceIte] at hx216_0)
         have qi216 : (1 < (rd_L1 t192 0).length) = True := eq_true (by omega)
         (try rw [show ((1 : Int)).toNat = 1 from rfl] at hx216_0)
         replace p216 := eq_true p216
         replace q216 := eq_true q216
         go_wp2
         repeat (go_quiet (fail); try go_wp2)
         go_meet
         case rel => exact ⟨_, (false), (by first | rfl | (simp; done) | (simp [*]; done)), H', ⟨by have := HJ13.out; first | omega | exact Nat.le_refl _⟩, ⟨by (with_reducible repeat (first | apply Kd.S_alloc | apply Kd.S_drewN | apply Kd.S_drew)); exact HO_9.out⟩, ⟨by repeat (first | (with_reducible first | exact HB.out | apply below_alloc | apply pw_below_drewN | apply below_drew1) | exact HB.out)⟩⟩
       ·as_aux_lemma =>
        rw [if_neg c45] at H
        have c45b0 : ((t192.length : Int) == 1) = false := beq_eq_false_iff_ne.mpr c45
        have c45b1 : ((t192.length : Int) != 1) = true := bne_iff_ne.mpr c45
        have c55 : ¬ ((t208 != false) = true) := fun c55 => by
         rw [if_pos c55] at H
         exact absurd H (by simp)
        rw [if_neg c55] at H
        have hT_ : t208 = false := by simpa using c55
        clear c55
        subst hT_
        have c56 : ¬ (t200 = 0) := fun c56 => by
         rw [if_pos c56] at H
         exact absurd H (by simp)
        rw [if_neg c56] at H
        have c56b0 : (t200 == 0) = false := beq_eq_false_iff_ne.mpr c56
        have c56b1 : (t200 != 0) = true := bne_iff_ne.mpr c56
        have c57 : (Int.tmod a0 t200) = 0 := Classical.byContradiction fun c57 => by
         rw [if_neg c57] at H
         exact absurd H (by simp)
        rw [if_pos c57] at H
        have c57b0 : ((Int.tmod a0 t200) == 0) = true := beq_iff_eq.mpr c57
        have c57b1 : ((Int.tmod a0 t200) != 0) = false := bne_eq_false_iff_eq.mpr c57
        clear c57
        by_cases c58 : t205 = true
        ·subst c58
         have H1 : (if 0 < (t192.length : Int) then (if 0 < ((rd_L1 t192 0).length : Int) then (if t204 = (rd (rd_L1 t192 0) 0) then (if t204 = 0 then (none) else (laws_FnFactorsToldOfAll.j1 kj13 a0 l1 a2 a3 t192 t200 ((Int.tmod a0 t204) != 0))) else (none)) else (none)) else (none)) = some r := by rw [if_pos rfl] at H; exact H
         clear H
         have H := H1
         clear H1
         have c59 : 0 < (t192.length : Int) := Classical.byContradiction fun c59 => by
          rw [if_neg c59] at H
          exact absurd H (by simp)
         rw [if_pos c59] at H
         have c59b0 : decide (0 < (t192.length : Int)) = true := decide_eq_true c59
         have c59b1 : decide (0 < t192.length) = true := decide_eq_true (by omega)
         clear c59
         have c60 : 0 < ((rd_L1 t192 0).length : Int) := Classical.byContradiction fun c60 => by
          rw [if_neg c60] at H
          exact absurd H (by simp)
         rw [if_pos c60] at H
         have c60b0 : decide (0 < ((rd_L1 t192 0).length : Int)) = true := decide_eq_true c60
         have c60b1 : decide (0 < (rd_L1 t192 0).length) = true := decide_eq_true (by omega)
         clear c60
         have c61 : t204 = (rd (rd_L1 t192 0) 0) := Classical.byContradiction fun c61 => by
          rw [if_neg c61] at H
          exact absurd H (by simp)
         rw [if_pos c61] at H
         have c61b0 : (t204 == (rd (rd_L1 t192 0) 0)) = true := beq_iff_eq.mpr c61
         have c61b1 : (t204 != (rd (rd_L1 t192 0) 0)) = false := bne_eq_false_iff_eq.mpr c61
         clear c61
         have c62 : ¬ (t204 = 0) := fun c62 => by
          rw [if_pos c62] at H
          exact absurd H (by simp)
         rw [if_neg c62] at H
         have c62b0 : (t204 == 0) = false := beq_eq_false_iff_ne.mpr c62
         have c62b1 : (t204 != 0) = true := bne_iff_ne.mpr c62
         have H' := Aside0.mk H
         clear H
         have p219 : 0 ≤ (0 : Int) := (by omega)
         have q219 : 0 < (t192.length : Int) := of_decide_eq_true (by first | (with_reducible assumption) | assumption)
         obtain ⟨ad219, A219_0, c219_0, e219, hx219_0, hl219_0, hi219_0⟩ := at_L1 (Kd.S_reads' HO_9.out).2.2 0 p219 q219
         cases e219
         obtain ⟨ce219, hce219, hMe219, hcc219⟩ := Kd.S_get HO_9.out [] 0 p219 (by first | exact q219 | exact of_decide_eq_true (by first | (with_reducible assumption) | assumption) | (have e_ := (Kd.S_reads' HO_9.out).1; omega))
         obtain ⟨ve219_0, rfl, ge219_0⟩ := hMe219
         have hv219_0 := hcc219 0 _ rfl
         rw [Nat.add_zero, show ((Kd.slice 3 (Kd.int .i64))).sz = 1 from rfl, Nat.mul_one] at hv219_0
         replace hv219_0 := Option.some.inj (hv219_0.symm.trans hx219_0)
         rw [hv219_0] at ge219_0
         have HL219_0 := Aside0.mk (show Kd.R (Kd.int .i64) 3 _ _ _ _ (rd_L1 t192 0) from ge219_0)
         clear hv219_0 ge219_0
         clear hcc219 hce219
         have qi219 : (0 < t192.length) = True := eq_true (by omega)
         (try rw [show ((0 : Int)).toNat = 0 from rfl] at hx219_0)
         (try rw [Addr.add_zero'] at hx219_0)
         have HR219_0 := Aside0.mk hi219_0
         have HC219_0 := Aside0.mk hl219_0
         clear hi219_0 hl219_0
         replace p219 := eq_true p219
         replace q219 := eq_true q219
         have p220 : 0 ≤ (0 : Int) := (by omega)
         have q220 : 0 < ((rd_L1 t192 0).length : Int) := of_decide_eq_true (by first | (with_reducible assumption) | assumption)
         obtain ⟨ad220, e220, hx220_0⟩ := Kd.at_int (by repeat (first | (with_reducible exact HR219_0.out) | (with_reducible refine Kd.C_alloc ?_ _) | (with_reducible refine Kd.C_drewN ?_ _) | (with_reducible refine Kd.C_drew ?_) | exact HR219_0.out)) 0 p220 q220
         cases e220
         have qi220 : (0 < (rd_L1 t192 0).length) = True := eq_true (by omega)
         (try rw [show ((0 : Int)).toNat = 0 from rfl] at hx220_0)
         (try rw [Addr.add_zero'] at hx220_0)
         replace p220 := eq_true p220
         replace q220 := eq_true q220
         go_wp2
         repeat (go_quiet (fail); try go_wp2)
         go_meet
         case rel => exact ⟨_, (((Int.tmod a0 t204) != 0)), (by first | rfl | (simp; done) | (simp [*]; done)), H', ⟨by have := HJ13.out; first | omega | exact Nat.le_refl _⟩, ⟨by (with_reducible repeat (first | apply Kd.S_alloc | apply Kd.S_drewN | apply Kd.S_drew)); exact HO_9.out⟩, ⟨by repeat (first | (with_reducible first | exact HB.out | apply below_alloc | apply pw_below_drewN | apply below_drew1) | exact HB.out)⟩⟩
        ·replace c58 := Bool.eq_false_iff.mpr c58
         subst c58
         have H1 : (laws_FnFactorsToldOfAll.j1 kj13 a0 l1 a2 a3 t192 t200 false) = some r := by rw [if_neg (show ¬ (false = true) by decide)] at H; exact H
         clear H
         have H := H1
         clear H1
         have H' := Aside0.mk H
         clear H
         go_wp2
         repeat (go_quiet (fail); try go_wp2)
         go_meet
         case rel => exact ⟨_, (false), (by first | rfl | (simp; done) | (simp [*]; done)), H', ⟨by have := HJ13.out; first | omega | exact Nat.le_refl _⟩, ⟨by (with_reducible repeat (first | apply Kd.S_alloc | apply Kd.S_drewN | apply Kd.S_drew)); exact HO_9.out⟩, ⟨by repeat (first | (with_reducible first | exact HB.out | apply below_alloc | apply pw_below_drewN | apply below_drew1) | exact HB.out)⟩⟩
      case rest =>
       as_aux_lemma =>
       clear HC40
       try clear c1
       try clear c2
       try clear p2
       try clear q2
       try clear hx2
       try clear qi2
       try clear c3
       try clear c4
       try clear c5
       try clear c5b0
       try clear c5b1
       try clear c6
       try clear c12
       try clear c19
       try clear c19b0
       try clear c19b1
       try clear c19b2
       try clear c21
       try clear p21
       try clear q21
       try clear hx21
       try clear qi21
       try clear c22
       try clear c22b0
       try clear c22b1
       try clear c22b2
       try clear p22
       try clear q22
       try clear hx22
       try clear qi22
       try clear c23
       try clear c23b0
       try clear c23b1
       try clear c24
       try clear c24b0
       try clear c24b1
       try clear c24b2
       try clear c25
       try clear c25b0
       try clear c25b1
       try clear c26
       try clear c26b0
       try clear c26b1
       try clear c26b2
       try clear c27
       try clear c27b0
       try clear c27b1
       try clear c27b2
       try clear c28
       try clear c28b0
       try clear c28b1
       try clear c28b2
       try clear c29
       try clear c30
       try clear c30b0
       try clear c30b1
       try clear c30b2
       try clear c33
       try clear c33b0
       try clear c33b1
       try clear c33b2
       try clear c36
       try clear c38
       try clear c43
       try clear c44
       try clear c44b0
       try clear c44b1
       try clear c45
       try clear c45b0
       try clear c45b1
       try clear c46
       try clear c46b0
       try clear c46b1
       try clear c47
       try clear c47b0
       try clear c47b1
       try clear c48
       try clear c48b0
       try clear c48b1
       try clear c48b2
       try clear c49
       try clear c49b0
       try clear c49b1
       try clear c50
       try clear c50b0
       try clear c50b1
       try clear c51
       try clear c52
       try clear c52b0
       try clear c52b1
       try clear c53
       try clear c53b0
       try clear c53b1
       try clear c54
       try clear c54b0
       try clear c54b1
       try clear c55
       try clear c55b0
       try clear c55b1
       try clear c55b2
       try clear c56
       try clear c56b0
       try clear c56b1
       try clear c57
       try clear c57b0
       try clear c57b1
       try clear c58
       try clear c59
       try clear c59b0
       try clear c59b1
       try clear c60
       try clear c60b0
       try clear c60b1
       try clear c61
       try clear c61b0
       try clear c61b1
       try clear c62
       try clear c62b0
       try clear c62b1
       try clear hx215_0
       try clear hx216_0
       try clear hx217_0
       try clear hx218_0
       try clear hx219_0
       try clear hx220_0
       try clear p2
       try clear p215
       try clear p216
       try clear p217
       try clear p218
       try clear p219
       try clear p220
       try clear q215
       try clear q216
       try clear q217
       try clear q218
       try clear q219
       try clear q220
       obtain ⟨kq, x198_39, rfl, HA, HJ39, HO_9, HB⟩ := hcut
       cases kq with
       | zero => exact absurd HA.out (by simp [laws_FnFactorsToldOfAll.j1])
       | succ kj39 =>
        have H := HA.out
        clear HA
        simp only [laws_FnFactorsToldOfAll.j1] at H
        have c63 : ¬ (x198_39 = true) := fun c63 => by
         subst c63
         have H1 : (none) = some r := by rw [if_pos rfl] at H; exact H
         clear H
         have H := H1
         clear H1
         exact absurd H (by simp)
        replace c63 := Bool.eq_false_iff.mpr c63
        subst c63
        have H1 : (laws_FnFactorsToldOfAll.l0 kj39 a0 l1 a2 a3 t192 t200 1 t192 (t192.length : Int) 0) = some r := by rw [if_neg (show ¬ (false = true) by decide)] at H; exact H
        clear H
        have H := H1
        clear H1
        have H' := Aside0.mk H
        clear H
        go_wp2
        repeat (go_quiet (fail); try go_wp2)
        go_loopg [27, 201] kj39 (fun kq v27 v201 w' => ∃ (x27_3 : Int) (x201_3 : Int), v27 = .int .i64 x27_3 ∧ v201 = .int .i64 x201_3 ∧ Aside0 (laws_FnFactorsToldOfAll.l0 kq a0 l1 a2 a3 t192 t200 x27_3 t192 (t192.length : Int) x201_3 = some r) ∧ Aside0 (kq ≤ kj39) ∧ Aside0 (Kd.S (Kd.slice 3 (Kd.int .i64)) 28 w' w.heap.size (fun _ => True) (.slice Ao41 t192.length co41) t192) ∧ Aside0 (Kd.S (Kd.slice 3 (Kd.int .i64)) 28 w' w.heap.size (fun _ => True) (.slice Ao41 t192.length co41) t192) ∧ Aside0 (Below w.heap.size w w'))
        case atStart => exact ⟨(1), (0), (by first | rfl | (simp; done) | (simp [*]; done)), (by first | rfl | (simp; done) | (simp [*]; done)), H', ⟨Nat.le_refl _⟩, ⟨by (with_reducible repeat (first | apply Kd.S_alloc | apply Kd.S_drewN | apply Kd.S_drew)); exact HO_9.out⟩, ⟨by (with_reducible repeat (first | apply Kd.S_alloc | apply Kd.S_drewN | apply Kd.S_drew)); exact HO_9.out⟩, ⟨by repeat (first | (with_reducible first | exact HB.out | apply below_alloc | apply pw_below_drewN | apply below_drew1) | exact HB.out)⟩⟩
        case round =>
         as_aux_lemma =>
         clear H'
         try clear c1
         try clear c2
         try clear p2
         try clear q2
         try clear hx2
         try clear qi2
         try clear c3
         try clear c4
         try clear c5
         try clear c5b0
         try clear c5b1
         try clear c6
         try clear c12
         try clear c19
         try clear c19b0
         try clear c19b1
         try clear c19b2
         try clear c21
         try clear p21
         try clear q21
         try clear hx21
         try clear qi21
         try clear c22
         try clear c22b0
         try clear c22b1
         try clear c22b2
         try clear p22
         try clear q22
         try clear hx22
         try clear qi22
         try clear c23
         try clear c23b0
         try clear c23b1
         try clear c24
         try clear c24b0
         try clear c24b1
         try clear c24b2
         try clear c25
         try clear c25b0
         try clear c25b1
         try clear c26
         try clear c26b0
         try clear c26b1
         try clear c26b2
         try clear c27
         try clear c27b0
         try clear c27b1
         try clear c27b2
         try clear c28
         try clear c28b0
         try clear c28b1
         try clear c28b2
         try clear c29
         try clear c30
         try clear c30b0
         try clear c30b1
         try clear c30b2
         try clear c33
         try clear c33b0
         try clear c33b1
         try clear c33b2
         try clear c36
         try clear c38
         try clear c43
         try clear c44
         try clear c44b0
         try clear c44b1
         try clear c45
         try clear c45b0
         try clear c45b1
         try clear c46
         try clear c46b0
         try clear c46b1
         try clear c47
         try clear c47b0
         try clear c47b1
         try clear c48
         try clear c48b0
         try clear c48b1
         try clear c48b2
         try clear c49
         try clear c49b0
         try clear c49b1
         try clear c50
         try clear c50b0
         try clear c50b1
         try clear c51
         try clear c52
         try clear c52b0
         try clear c52b1
         try clear c53
         try clear c53b0
         try clear c53b1
         try clear c54
         try clear c54b0
         try clear c54b1
         try clear c55
         try clear c55b0
         try clear c55b1
         try clear c55b2
         try clear c56
         try clear c56b0
         try clear c56b1
         try clear c57
         try clear c57b0
         try clear c57b1
         try clear c58
         try clear c59
         try clear c59b0
         try clear c59b1
         try clear c60
         try clear c60b0
         try clear c60b1
         try clear c61
         try clear c61b0
         try clear c61b1
         try clear c62
         try clear c62b0
         try clear c62b1
         try clear c63
         try clear hx215_0
         try clear hx216_0
         try clear hx217_0
         try clear hx218_0
         try clear hx219_0
         try clear hx220_0
         try clear p2
         try clear p21
         try clear p215
         try clear p216
         try clear p217
         try clear p218
         try clear p219
         try clear p22
         try clear p220
         try clear q2
         try clear q21
         try clear q215
         try clear q216
         try clear q217
         try clear q218
         try clear q219
         try clear q22
         try clear q220
         obtain ⟨x27_3, x201_3, rfl, rfl, HA, HK3, HO_9, HO_199, HB⟩ := hrel
         cases gk with
         | zero => exact absurd HA.out (by simp [laws_FnFactorsToldOfAll.l0])
         | succ k3 =>
          have H := HA.out
          clear HA
          simp only [laws_FnFactorsToldOfAll.l0] at H
          by_cases c64 : x201_3 < (t192.length : Int)
          ·as_aux_lemma =>
           rw [if_pos c64] at H
           have c64b0 : decide (x201_3 < (t192.length : Int)) = true := decide_eq_true c64
           clear c64
           have c65 : 0 ≤ x201_3 := Classical.byContradiction fun c65 => by
            rw [if_neg c65] at H
            exact absurd H (by simp)
           rw [if_pos c65] at H
           have c65b0 : decide (0 ≤ x201_3) = true := decide_eq_true c65
           clear c65
           have c66 : x201_3 < (t192.length : Int) := Classical.byContradiction fun c66 => by
            rw [if_neg c66] at H
            exact absurd H (by simp)
           rw [if_pos c66] at H
           have c66b0 : decide (x201_3 < (t192.length : Int)) = true := decide_eq_true c66
           clear c66
           have c67 : 0 < ((rd_L1 t192 x201_3).length : Int) := Classical.byContradiction fun c67 => by
            rw [if_neg c67] at H
            exact absurd H (by simp)
           rw [if_pos c67] at H
           have c67b0 : decide (0 < ((rd_L1 t192 x201_3).length : Int)) = true := decide_eq_true c67
           have c67b1 : decide (0 < (rd_L1 t192 x201_3).length) = true := decide_eq_true (by omega)
           clear c67
           replace H := Option.bind_eq_some_iff.mp H
           obtain ⟨⟨t223, t224⟩, A680, H⟩ := H
           replace H : ((impl_IsSmooth.f k3 a0 (rd (rd_L1 t192 x201_3) 0)).bind fun bt226 => (if ((rd_L1 t192 x201_3).length : Int) = 2 then (if t224 = true then (if t223 = true then (if 1 < ((rd_L1 t192 x201_3).length : Int) then (if (rd (rd_L1 t192 x201_3) 1) < 1 then (none) else (if x201_3 > 0 then (if 0 ≤ (wrap64 (x201_3 - 1)) then (if (wrap64 (x201_3 - 1)) < (t192.length : Int) then (if 0 < ((rd_L1 t192 (wrap64 (x201_3 - 1))).length : Int) then (if (rd (rd_L1 t192 (wrap64 (x201_3 - 1))) 0) ≥ (rd (rd_L1 t192 x201_3) 0) then (none) else (if bt226.2 = true then (if (bt226.1 != (x201_3 == (wrap64 ((t192.length : Int) - 1)))) = true then (none) else (laws_FnFactorsToldOfAll.l0 k3 a0 l1 a2 a3 t192 t200 (wrap64 (x27_3 * (rd (rd_L1 t192 x201_3) 0))) t192 (t192.length : Int) (wrap64 (x201_3 + 1)))) else (none))) else (none)) else (none)) else (none)) else (if bt226.2 = true then (if (bt226.1 != (x201_3 == (wrap64 ((t192.length : Int) - 1)))) = true then (none) else (laws_FnFactorsToldOfAll.l0 k3 a0 l1 a2 a3 t192 t200 (wrap64 (x27_3 * (rd (rd_L1 t192 x201_3) 0))) t192 (t192.length : Int) (wrap64 (x201_3 + 1)))) else (none)))) else (none)) else (none)) else (none)) else (none))) = some r := H
           have A68 := Aside0.mk A680
           clear A680
           replace H := Option.bind_eq_some_iff.mp H
           obtain ⟨⟨t226, t227⟩, A690, H⟩ := H
           replace H : (if ((rd_L1 t192 x201_3).length : Int) = 2 then (if t224 = true then (if t223 = true then (if 1 < ((rd_L1 t192 x201_3).length : Int) then (if (rd (rd_L1 t192 x201_3) 1) < 1 then (none) else (if x201_3 > 0 then (if 0 ≤ (wrap64 (x201_3 - 1)) then (if (wrap64 (x201_3 - 1)) < (t192.length : Int) then (if 0 < ((rd_L1 t192 (wrap64 (x201_3 - 1))).length : Int) then (if (rd (rd_L1 t192 (wrap64 (x201_3 - 1))) 0) ≥ (rd (rd_L1 t192 x201_3) 0) then (none) else (if t227 = true then (if (t226 != (x201_3 == (wrap64 ((t192.length : Int) - 1)))) = true then (none) else (laws_FnFactorsToldOfAll.l0 k3 a0 l1 a2 a3 t192 t200 (wrap64 (x27_3 * (rd (rd_L1 t192 x201_3) 0))) t192 (t192.length : Int) (wrap64 (x201_3 + 1)))) else (none))) else (none)) else (none)) else (none)) else (if t227 = true then (if (t226 != (x201_3 == (wrap64 ((t192.length : Int) - 1)))) = true then (none) else (laws_FnFactorsToldOfAll.l0 k3 a0 l1 a2 a3 t192 t200 (wrap64 (x27_3 * (rd (rd_L1 t192 x201_3) 0))) t192 (t192.length : Int) (wrap64 (x201_3 + 1)))) else (none)))) else (none)) else (none)) else (none)) else (none)) = some r := H
           have A69 := Aside0.mk A690
           clear A690
           have c70 : ((rd_L1 t192 x201_3).length : Int) = 2 := Classical.byContradiction fun c70 => by
            rw [if_neg c70] at H
            exact absurd H (by simp)
           rw [if_pos c70] at H
           have c70b0 : (((rd_L1 t192 x201_3).length : Int) == 2) = true := beq_iff_eq.mpr c70
           have c70b1 : (((rd_L1 t192 x201_3).length : Int) != 2) = false := bne_eq_false_iff_eq.mpr c70
           clear c70
           have c71 : t224 = true := Classical.byContradiction fun c71 => by
            replace c71 := Bool.eq_false_iff.mpr c71
            subst c71
            have H1 : (none) = some r := by rw [if_neg (show ¬ (false = true) by decide)] at H; exact H
            clear H
            have H := H1
            clear H1
            exact absurd H (by simp)
           subst c71
           have H1 : (if t223 = true then (if 1 < ((rd_L1 t192 x201_3).length : Int) then (if (rd (rd_L1 t192 x201_3) 1) < 1 then (none) else (if x201_3 > 0 then (if 0 ≤ (wrap64 (x201_3 - 1)) then (if (wrap64 (x201_3 - 1)) < (t192.length : Int) then (if 0 < ((rd_L1 t192 (wrap64 (x201_3 - 1))).length : Int) then (if (rd (rd_L1 t192 (wrap64 (x201_3 - 1))) 0) ≥ (rd (rd_L1 t192 x201_3) 0) then (none) else (if t227 = true then (if (t226 != (x201_3 == (wrap64 ((t192.length : Int) - 1)))) = true then (none) else (laws_FnFactorsToldOfAll.l0 k3 a0 l1 a2 a3 t192 t200 (wrap64 (x27_3 * (rd (rd_L1 t192 x201_3) 0))) t192 (t192.length : Int) (wrap64 (x201_3 + 1)))) else (none))) else (none)) else (none)) else (none)) else (if t227 = true then (if (t226 != (x201_3 == (wrap64 ((t192.length : Int) - 1)))) = true then (none) else (laws_FnFactorsToldOfAll.l0 k3 a0 l1 a2 a3 t192 t200 (wrap64 (x27_3 * (rd (rd_L1 t192 x201_3) 0))) t192 (t192.length : Int) (wrap64 (x201_3 + 1)))) else (none)))) else (none)) else (none)) = some r := by rw [if_pos rfl] at H; exact H
           clear H
           have H := H1
           clear H1
           have c72 : t223 = true := Classical.byContradiction fun c72 => by
            replace c72 := Bool.eq_false_iff.mpr c72
            subst c72
            have H1 : (none) = some r := by rw [if_neg (show ¬ (false = true) by decide)] at H; exact H
            clear H
            have H := H1
            clear H1
            exact absurd H (by simp)
           subst c72
           have H1 : (if 1 < ((rd_L1 t192 x201_3).length : Int) then (if (rd (rd_L1 t192 x201_3) 1) < 1 then (none) else (if x201_3 > 0 then (if 0 ≤ (wrap64 (x201_3 - 1)) then (if (wrap64 (x201_3 - 1)) < (t192.length : Int) then (if 0 < ((rd_L1 t192 (wrap64 (x201_3 - 1))).length : Int) then (if (rd (rd_L1 t192 (wrap64 (x201_3 - 1))) 0) ≥ (rd (rd_L1 t192 x201_3) 0) then (none) else (if t227 = true then (if (t226 != (x201_3 == (wrap64 ((t192.length : Int) - 1)))) = true then (none) else (laws_FnFactorsToldOfAll.l0 k3 a0 l1 a2 a3 t192 t200 (wrap64 (x27_3 * (rd (rd_L1 t192 x201_3) 0))) t192 (t192.length : Int) (wrap64 (x201_3 + 1)))) else (none))) else (none)) else (none)) else (none)) else (if t227 = true then (if (t226 != (x201_3 == (wrap64 ((t192.length : Int) - 1)))) = true then (none) else (laws_FnFactorsToldOfAll.l0 k3 a0 l1 a2 a3 t192 t200 (wrap64 (x27_3 * (rd (rd_L1 t192 x201_3) 0))) t192 (t192.length : Int) (wrap64 (x201_3 + 1)))) else (none)))) else (none)) = some r := by rw [if_pos rfl] at H; exact H
           clear H
           have H := H1
           clear H1
           have c73 : 1 < ((rd_L1 t192 x201_3).length : Int) := Classical.byContradiction fun c73 => by
            rw [if_neg c73] at H
            exact absurd H (by simp)
           rw [if_pos c73] at H
           have c73b0 : decide (1 < ((rd_L1 t192 x201_3).length : Int)) = true := decide_eq_true c73
           have c73b1 : decide (1 < (rd_L1 t192 x201_3).length) = true := decide_eq_true (by omega)
           clear c73
           have c74 : ¬ ((rd (rd_L1 t192 x201_3) 1) < 1) := fun c74 => by
            rw [if_pos c74] at H
            exact absurd H (by simp)
           rw [if_neg c74] at H
           have c74b0 : decide ((rd (rd_L1 t192 x201_3) 1) < 1) = false := decide_eq_false c74
           clear c74
           by_cases c75 : x201_3 > 0
           ·as_aux_lemma =>
            rw [if_pos c75] at H
            have c75b0 : decide (0 < x201_3) = true := decide_eq_true c75
            clear c75
            obtain ⟨ji76, hji76⟩ : ∃ j_ : Int, (wrap64 (x201_3 - 1)) = j_ := ⟨_, rfl⟩
            replace H : (if 0 ≤ (ji76) then (if (ji76) < (t192.length : Int) then (if 0 < ((rd_L1 t192 (ji76)).length : Int) then (if (rd (rd_L1 t192 (ji76)) 0) ≥ (rd (rd_L1 t192 x201_3) 0) then (none) else (if t227 = true then (if (t226 != (x201_3 == (wrap64 ((t192.length : Int) - 1)))) = true then (none) else (laws_FnFactorsToldOfAll.l0 k3 a0 l1 a2 a3 t192 t200 (wrap64 (x27_3 * (rd (rd_L1 t192 x201_3) 0))) t192 (t192.length : Int) (wrap64 (x201_3 + 1)))) else (none))) else (none)) else (none)) else (none)) = some r := by first | (rw [hji76] at H; exact H) | (simp only [hji76] at H ⊢; exact H)
            (try rw [hji76] at A68)
            (try rw [hji76] at A69)
            have hji76w : (IntKind.i64.wrap (x201_3 - 1)) = ji76 := (i64_w _).trans hji76
            have c77 : 0 ≤ (ji76) := Classical.byContradiction fun c77 => by
             rw [if_neg c77] at H
             exact absurd H (by simp)
            rw [if_pos c77] at H
            have c77b0 : decide (0 ≤ (ji76)) = true := decide_eq_true c77
            clear c77
            have c78 : (ji76) < (t192.length : Int) := Classical.byContradiction fun c78 => by
             rw [if_neg c78] at H
             exact absurd H (by simp)
            rw [if_pos c78] at H
            have c78b0 : decide ((ji76) < (t192.length : Int)) = true := decide_eq_true c78
            clear c78
            have c79 : 0 < ((rd_L1 t192 (ji76)).length : Int) := Classical.byContradiction fun c79 => by
             rw [if_neg c79] at H
             exact absurd H (by simp)
            rw [if_pos c79] at H
            have c79b0 : decide (0 < ((rd_L1 t192 (ji76)).length : Int)) = true := decide_eq_true c79
            have c79b1 : decide (0 < (rd_L1 t192 (ji76)).length) = true := decide_eq_true (by omega)
            clear c79
            have c80 : ¬ ((rd (rd_L1 t192 (ji76)) 0) ≥ (rd (rd_L1 t192 x201_3) 0)) := fun c80 => by
             rw [if_pos c80] at H
             exact absurd H (by simp)
            rw [if_neg c80] at H
            have c80b0 : decide ((rd (rd_L1 t192 x201_3) 0) ≤ (rd (rd_L1 t192 (ji76)) 0)) = false := decide_eq_false c80
            clear c80
            have c81 : t227 = true := Classical.byContradiction fun c81 => by
             replace c81 := Bool.eq_false_iff.mpr c81
             subst c81
             have H1 : (none) = some r := by rw [if_neg (show ¬ (false = true) by decide)] at H; exact H
             clear H
             have H := H1
             clear H1
             exact absurd H (by simp)
            subst c81
            have H1 : (if (t226 != (x201_3 == (wrap64 ((t192.length : Int) - 1)))) = true then (none) else (laws_FnFactorsToldOfAll.l0 k3 a0 l1 a2 a3 t192 t200 (wrap64 (x27_3 * (rd (rd_L1 t192 x201_3) 0))) t192 (t192.length : Int) (wrap64 (x201_3 + 1)))) = some r := by rw [if_pos rfl] at H; exact H
            clear H
            have H := H1
            clear H1
            have c82 : ¬ ((t226 != (x201_3 == (wrap64 ((t192.length : Int) - 1)))) = true) := fun c82 => by
             rw [if_pos c82] at H
             exact absurd H (by simp)
            rw [if_neg c82] at H
            have c82b0 : (t226 != (x201_3 == (wrap64 ((t192.length : Int) - 1)))) = false := by simpa using c82
            (try (have c82b1 : decide (t226 = (x201_3 == (wrap64 ((t192.length : Int) - 1)))) = true := by simpa using c82))
            (try (have c82b2 : (t226 == (x201_3 == (wrap64 ((t192.length : Int) - 1)))) = true := by simpa using c82))
            clear c82
            have H' := Aside0.mk H
            clear H
            have p221 : 0 ≤ (x201_3 : Int) := of_decide_eq_true (by first | (with_reducible assumption) | assumption)
            have q221 : x201_3 < (t192.length : Int) := of_decide_eq_true (by first | (with_reducible assumption) | assumption)
            obtain ⟨ad221, A221_0, c221_0, e221, hx221_0, hl221_0, hi221_0⟩ := at_L1 (Kd.S_reads' HO_199.out).2.2 x201_3 p221 q221
            cases e221
            obtain ⟨ce221, hce221, hMe221, hcc221⟩ := Kd.S_get HO_199.out [] x201_3 p221 (by first | exact q221 | exact of_decide_eq_true (by first | (with_reducible assumption) | assumption) | (have e_ := (Kd.S_reads' HO_199.out).1; omega))
            obtain ⟨ve221_0, rfl, ge221_0⟩ := hMe221
            have hv221_0 := hcc221 0 _ rfl
            rw [Nat.add_zero, show ((Kd.slice 3 (Kd.int .i64))).sz = 1 from rfl, Nat.mul_one] at hv221_0
            replace hv221_0 := Option.some.inj (hv221_0.symm.trans hx221_0)
            rw [hv221_0] at ge221_0
            have HL221_0 := Aside0.mk (show Kd.R (Kd.int .i64) 3 _ _ _ _ (rd_L1 t192 x201_3) from ge221_0)
            clear hv221_0 ge221_0
            clear hcc221 hce221
            have HR221_0 := Aside0.mk hi221_0
            have HC221_0 := Aside0.mk hl221_0
            clear hi221_0 hl221_0
            replace p221 := eq_true p221
            replace q221 := eq_true q221
            have p222 : 0 ≤ (0 : Int) := (by omega)
            have q222 : 0 < ((rd_L1 t192 x201_3).length : Int) := of_decide_eq_true (by first | (with_reducible assumption) | assumption)
            obtain ⟨ad222, e222, hx222_0⟩ := Kd.at_int (by repeat (first | (with_reducible exact HR221_0.out) | (with_reducible refine Kd.C_alloc ?_ _) | (with_reducible refine Kd.C_drewN ?_ _) | (with_reducible refine Kd.C_drew ?_) | exact HR221_0.out)) 0 p222 q222
            cases e222
            have qi222 : (0 < (rd_L1 t192 x201_3).length) = True := eq_true (by omega)
            (try rw [show ((0 : Int)).toNat = 0 from rfl] at hx222_0)
            (try rw [Addr.add_zero'] at hx222_0)
            replace p222 := eq_true p222
            replace q222 := eq_true q222
            as_aux_lemma =>
            go_wp2_with (first | (go_at_call 48; (with_reducible refine (impl_IsPrime.calls k3 (rd (rd_L1 t192 x201_3) 0) true true _ A68.out).mono ?_); rintro e w' ⟨rfl, ⟨nd, rfl⟩⟩; (try first | exact ⟨rfl, _, World.drewN_drewN _ _ _⟩ | exact ⟨rfl, _, Eq.trans (World.drewN_drewN _ _ _) (congrArg (World.drewN _) (Nat.add_assoc _ _ _))⟩); have p225 : 0 ≤ (0 : Int) := (by omega); have q225 : 0 < ((rd_L1 t192 x201_3).length : Int) := of_decide_eq_true (by first | (with_reducible assumption) | assumption); obtain ⟨ad225, e225, hx225_0⟩ := Kd.at_int (by repeat (first | (with_reducible exact HR221_0.out) | (with_reducible refine Kd.C_alloc ?_ _) | (with_reducible refine Kd.C_drewN ?_ _) | (with_reducible refine Kd.C_drew ?_) | exact HR221_0.out)) 0 p225 q225; obtain rfl : ad222 = ad225 := (by injection e225); have qi225 : (0 < (rd_L1 t192 x201_3).length) = True := eq_true (by omega); (try rw [show ((0 : Int)).toNat = 0 from rfl] at hx225_0); (try rw [Addr.add_zero'] at hx225_0); replace p225 := eq_true p225; replace q225 := eq_true q225))
            as_aux_lemma =>
            go_wp2_with (first | (go_at_call 51; (with_reducible refine (impl_IsSmooth.calls k3 a0 (rd (rd_L1 t192 x201_3) 0) t226 true _ A69.out).mono ?_); rintro e w83 ⟨rfl, hb⟩; have n0_ := Aside0.mk (Kd.S_below (by (with_reducible repeat (first | apply Kd.S_alloc | apply Kd.S_drewN | apply Kd.S_drew)); exact HO_9.out) hb); have n1_ := Aside0.mk (Kd.S_below (by (with_reducible repeat (first | apply Kd.S_alloc | apply Kd.S_drewN | apply Kd.S_drew)); exact HO_199.out) hb); have n2_ := Aside0.mk (Kd.R_below (by (with_reducible repeat (first | apply Kd.R_alloc | apply Kd.R_drewN | apply Kd.R_drew)); exact HL221_0.out) hb); have n3_ := Aside0.mk (Kd.C_below (by repeat (first | (with_reducible exact HR221_0.out) | (with_reducible refine Kd.C_alloc ?_ _) | (with_reducible refine Kd.C_drewN ?_ _) | (with_reducible refine Kd.C_drew ?_) | exact HR221_0.out)) hb); have n4_ := Aside0.mk (below_step (by repeat (first | (with_reducible first | exact HB.out | apply below_alloc | apply pw_below_drewN | apply below_drew1) | exact HB.out)) hb); clear HO_9; clear HO_199; clear HL221_0; clear HR221_0; clear HB; have HO_9 := n0_; have HO_199 := n1_; have HL221_0 := n2_; have HR221_0 := n3_; have HB := n4_; clear n0_ n1_ n2_ n3_ n4_; (try clear hb); (try clear hb2); (try clear hk); (try clear hi); have p228 : 0 ≤ (1 : Int) := (by omega); have q228 : 1 < ((rd_L1 t192 x201_3).length : Int) := of_decide_eq_true (by first | (with_reducible assumption) | assumption); obtain ⟨ad228, e228, hx228_0⟩ := Kd.at_int (by repeat (first | (with_reducible exact HR221_0.out) | (with_reducible refine Kd.C_alloc ?_ _) | (with_reducible refine Kd.C_drewN ?_ _) | (with_reducible refine Kd.C_drew ?_) | exact HR221_0.out)) 1 p228 q228; obtain rfl : ad222 = ad228 := (by injection e228); (try simp only [show (1 : Int).toNat = 1 from rfl, Nat.reduceMul, Nat.reduceEqDiff, Go.Addr.add, ↓reduceIte] at hx228_0); have qi228 : (1 < (rd_L1 t192 x201_3).length) = True := eq_true (by omega); (try rw [show ((1 : Int)).toNat = 1 from rfl] at hx228_0); replace p228 := eq_true p228; replace q228 := eq_true q228; have p229 : 0 ≤ ((ji76) : Int) := of_decide_eq_true (by first | (with_reducible assumption) | assumption); have q229 : (ji76) < (t192.length : Int) := of_decide_eq_true (by first | (with_reducible assumption) | assumption); obtain ⟨ad229, A229_0, c229_0, e229, hx229_0, hl229_0, hi229_0⟩ := at_L1 (Kd.S_reads' HO_9.out).2.2 (ji76) p229 q229; obtain rfl : ad221 = ad229 := (by injection e229); obtain ⟨ce229, hce229, hMe229, hcc229⟩ := Kd.S_get HO_9.out [] (ji76) p229 (by first | exact q229 | exact of_decide_eq_true (by first | (with_reducible assumption) | assumption) | (have e_ := (Kd.S_reads' HO_9.out).1; omega)); obtain ⟨ve229_0, rfl, ge229_0⟩ := hMe229; have hv229_0 := hcc229 0 _ rfl; rw [Nat.add_zero, show ((Kd.slice 3 (Kd.int .i64))).sz = 1 from rfl, Nat.mul_one] at hv229_0; replace hv229_0 := Option.some.inj (hv229_0.symm.trans hx229_0); rw [hv229_0] at ge229_0; have HL229_0 := Aside0.mk (show Kd.R (Kd.int .i64) 3 _ _ _ _ (rd_L1 t192 (ji76)) from ge229_0); clear hv229_0 ge229_0; clear hcc229 hce229; have HR229_0 := Aside0.mk hi229_0; have HC229_0 := Aside0.mk hl229_0; clear hi229_0 hl229_0; replace p229 := eq_true p229; replace q229 := eq_true q229; have p230 : 0 ≤ (0 : Int) := (by omega); have q230 : 0 < ((rd_L1 t192 (ji76)).length : Int) := of_decide_eq_true (by first | (with_reducible assumption) | assumption); obtain ⟨ad230, e230, hx230_0⟩ := Kd.at_int (by repeat (first | (with_reducible exact HR229_0.out) | (with_reducible refine Kd.C_alloc ?_ _) | (with_reducible refine Kd.C_drewN ?_ _) | (with_reducible refine Kd.C_drew ?_) | exact HR229_0.out)) 0 p230 q230; cases e230; have qi230 : (0 < (rd_L1 t192 (ji76)).length) = True := eq_true (by omega); (try rw [show ((0 : Int)).toNat = 0 from rfl] at hx230_0); (try rw [Addr.add_zero'] at hx230_0); replace p230 := eq_true p230; replace q230 := eq_true q230; have p231 : 0 ≤ (0 : Int) := (by omega); have q231 : 0 < ((rd_L1 t192 x201_3).length : Int) := of_decide_eq_true (by first | (with_reducible assumption) | assumption); obtain ⟨ad231, e231, hx231_0⟩ := Kd.at_int (by repeat (first | (with_reducible exact HR221_0.out) | (with_reducible refine Kd.C_alloc ?_ _) | (with_reducible refine Kd.C_drewN ?_ _) | (with_reducible refine Kd.C_drew ?_) | exact HR221_0.out)) 0 p231 q231; obtain rfl : ad222 = ad231 := (by injection e231); have qi231 : (0 < (rd_L1 t192 x201_3).length) = True := eq_true (by omega); (try rw [show ((0 : Int)).toNat = 0 from rfl] at hx231_0); (try rw [Addr.add_zero'] at hx231_0); replace p231 := eq_true p231; replace q231 := eq_true q231; have p232 : 0 ≤ (0 : Int) := (by omega); have q232 : 0 < ((rd_L1 t192 x201_3).length : Int) := of_decide_eq_true (by first | (with_reducible assumption) | assumption); obtain ⟨ad232, e232, hx232_0⟩ := Kd.at_int (by repeat (first | (with_reducible exact HR221_0.out) | (with_reducible refine Kd.C_alloc ?_ _) | (with_reducible refine Kd.C_drewN ?_ _) | (with_reducible refine Kd.C_drew ?_) | exact HR221_0.out)) 0 p232 q232; obtain rfl : ad222 = ad232 := (by injection e232); have qi232 : (0 < (rd_L1 t192 x201_3).length) = True := eq_true (by omega); (try rw [show ((0 : Int)).toNat = 0 from rfl] at hx232_0); (try rw [Addr.add_zero'] at hx232_0); replace p232 := eq_true p232; replace q232 := eq_true q232))
            repeat (go_quiet (first | (go_at_call 48; (with_reducible refine (impl_IsPrime.calls k3 (rd (rd_L1 t192 x201_3) 0) true true _ A68.out).mono ?_); rintro e w' ⟨rfl, ⟨nd, rfl⟩⟩; (try first | exact ⟨rfl, _, World.drewN_drewN _ _ _⟩ | exact ⟨rfl, _, Eq.trans (World.drewN_drewN _ _ _) (congrArg (World.drewN _) (Nat.add_assoc _ _ _))⟩); have p225 : 0 ≤ (0 : Int) := (by omega); have q225 : 0 < ((rd_L1 t192 x201_3).length : Int) := of_decide_eq_true (by first | (with_reducible assumption) | assumption); obtain ⟨ad225, e225, hx225_0⟩ := Kd.at_int (by repeat (first | (with_reducible exact HR221_0.out) | (with_reducible refine Kd.C_alloc ?_ _) | (with_reducible refine Kd.C_drewN ?_ _) | (with_reducible refine Kd.C_drew ?_) | exact HR221_0.out)) 0 p225 q225; obtain rfl : ad222 = ad225 := (by injection e225); have qi225 : (0 < (rd_L1 t192 x201_3).length) = True := eq_true (by omega); (try rw [show ((0 : Int)).toNat = 0 from rfl] at hx225_0); (try rw [Addr.add_zero'] at hx225_0); replace p225 := eq_true p225; replace q225 := eq_true q225) | (go_at_call 51; (with_reducible refine (impl_IsSmooth.calls k3 a0 (rd (rd_L1 t192 x201_3) 0) t226 true _ A69.out).mono ?_); rintro e w83 ⟨rfl, hb⟩; have n0_ := Aside0.mk (Kd.S_below (by (with_reducible repeat (first | apply Kd.S_alloc | apply Kd.S_drewN | apply Kd.S_drew)); exact HO_9.out) hb); have n1_ := Aside0.mk (Kd.S_below (by (with_reducible repeat (first | apply Kd.S_alloc | apply Kd.S_drewN | apply Kd.S_drew)); exact HO_199.out) hb); have n2_ := Aside0.mk (Kd.R_below (by (with_reducible repeat (first | apply Kd.R_alloc | apply Kd.R_drewN | apply Kd.R_drew)); exact HL221_0.out) hb); have n3_ := Aside0.mk (Kd.C_below (by repeat (first | (with_reducible exact HR221_0.out) | (with_reducible refine Kd.C_alloc ?_ _) | (with_reducible refine Kd.C_drewN ?_ _) | (with_reducible refine Kd.C_drew ?_) | exact HR221_0.out)) hb); have n4_ := Aside0.mk (below_step (by repeat (first | (with_reducible first | exact HB.out | apply below_alloc | apply pw_below_drewN | apply below_drew1) | exact HB.out)) hb); clear HO_9; clear HO_199; clear HL221_0; clear HR221_0; clear HB; have HO_9 := n0_; have HO_199 := n1_; have HL221_0 := n2_; have HR221_0 := n3_; have HB := n4_; clear n0_ n1_ n2_ n3_ n4_; (try clear hb); (try clear hb2); (try clear hk); (try clear hi); have p228 : 0 ≤ (1 : Int) := (by omega); have q228 : 1 < ((rd_L1 t192 x201_3).length : Int) := of_decide_eq_true (by first | (with_reducible assumption) | assumption); obtain ⟨ad228, e228, hx228_0⟩ := Kd.at_int (by repeat (first | (with_reducible exact HR221_0.out) | (with_reducible refine Kd.C_alloc ?_ _) | (with_reducible refine Kd.C_drewN ?_ _) | (with_reducible refine Kd.C_drew ?_) | exact HR221_0.out)) 1 p228 q228; obtain rfl : ad222 = ad228 := (by injection e228); (try simp only [show (1 : Int).toNat = 1 from rfl, Nat.reduceMul, Nat.reduceEqDiff, Go.Addr.add, ↓reduceIte] at hx228_0); have qi228 : (1 < (rd_L1 t192 x201_3).length) = True := eq_true (by omega); (try rw [show ((1 : Int)).toNat = 1 from rfl] at hx228_0); replace p228 := eq_true p228; replace q228 := eq_true q228; have p229 : 0 ≤ ((ji76) : Int) := of_decide_eq_true (by first | (with_reducible assumption) | assumption); have q229 : (ji76) < (t192.length : Int) := of_decide_eq_true (by first | (with_reducible assumption) | assumption); obtain ⟨ad229, A229_0, c229_0, e229, hx229_0, hl229_0, hi229_0⟩ := at_L1 (Kd.S_reads' HO_9.out).2.2 (ji76) p229 q229; obtain rfl : ad221 = ad229 := (by injection e229); obtain ⟨ce229, hce229, hMe229, hcc229⟩ := Kd.S_get HO_9.out [] (ji76) p229 (by first | exact q229 | exact of_decide_eq_true (by first | (with_reducible assumption) | assumption) | (have e_ := (Kd.S_reads' HO_9.out).1; omega)); obtain ⟨ve229_0, rfl, ge229_0⟩ := hMe229; have hv229_0 := hcc229 0 _ rfl; rw [Nat.add_zero, show ((Kd.slice 3 (Kd.int .i64))).sz = 1 from rfl, Nat.mul_one] at hv229_0; replace hv229_0 := Option.some.inj (hv229_0.symm.trans hx229_0); rw [hv229_0] at ge229_0; have HL229_0 := Aside0.mk (show Kd.R (Kd.int .i64) 3 _ _ _ _ (rd_L1 t192 (ji76)) from ge229_0); clear hv229_0 ge229_0; clear hcc229 hce229; have HR229_0 := Aside0.mk hi229_0; have HC229_0 := Aside0.mk hl229_0; clear hi229_0 hl229_0; replace p229 := eq_true p229; replace q229 := eq_true q229; have p230 : 0 ≤ (0 : Int) := (by omega); have q230 : 0 < ((rd_L1 t192 (ji76)).length : Int) := of_decide_eq_true (by first | (with_reducible assumption) | assumption); obtain ⟨ad230, e230, hx230_0⟩ := Kd.at_int (by repeat (first | (with_reducible exact HR229_0.out) | (with_reducible refine Kd.C_alloc ?_ _) | (with_reducible refine Kd.C_drewN ?_ _) | (with_reducible refine Kd.C_drew ?_) | exact HR229_0.out)) 0 p230 q230; cases e230; have qi230 : (0 < (rd_L1 t192 (ji76)).length) = True := eq_true (by omega); (try rw [show ((0 : Int)).toNat = 0 from rfl] at hx230_0); (try rw [Addr.add_zero'] at hx230_0); replace p230 := eq_true p230; replace q230 := eq_true q230; have p231 : 0 ≤ (0 : Int) := (by omega); have q231 : 0 < ((rd_L1 t192 x201_3).length : Int) := of_decide_eq_true (by first | (with_reducible assumption) | assumption); obtain ⟨ad231, e231, hx231_0⟩ := Kd.at_int (by repeat (first | (with_reducible exact HR221_0.out) | (with_reducible refine Kd.C_alloc ?_ _) | (with_reducible refine Kd.C_drewN ?_ _) | (with_reducible refine Kd.C_drew ?_) | exact HR221_0.out)) 0 p231 q231; obtain rfl : ad222 = ad231 := (by injection e231); have qi231 : (0 < (rd_L1 t192 x201_3).length) = True := eq_true (by omega); (try rw [show ((0 : Int)).toNat = 0 from rfl] at hx231_0); (try rw [Addr.add_zero'] at hx231_0); replace p231 := eq_true p231; replace q231 := eq_true q231; have p232 : 0 ≤ (0 : Int) := (by omega); have q232 : 0 < ((rd_L1 t192 x201_3).length : Int) := of_decide_eq_true (by first | (with_reducible assumption) | assumption); obtain ⟨ad232, e232, hx232_0⟩ := Kd.at_int (by repeat (first | (with_reducible exact HR221_0.out) | (with_reducible refine Kd.C_alloc ?_ _) | (with_reducible refine Kd.C_drewN ?_ _) | (with_reducible refine Kd.C_drew ?_) | exact HR221_0.out)) 0 p232 q232; obtain rfl : ad222 = ad232 := (by injection e232); have qi232 : (0 < (rd_L1 t192 x201_3).length) = True := eq_true (by omega); (try rw [show ((0 : Int)).toNat = 0 from rfl] at hx232_0); (try rw [Addr.add_zero'] at hx232_0); replace p232 := eq_true p232; replace q232 := eq_true q232)); try go_wp2_with (first | (go_at_call 48; (with_reducible refine (impl_IsPrime.calls k3 (rd (rd_L1 t192 x201_3) 0) true true _ A68.out).mono ?_); rintro e w' ⟨rfl, ⟨nd, rfl⟩⟩; (try first | exact ⟨rfl, _, World.drewN_drewN _ _ _⟩ | exact ⟨rfl, _, Eq.trans (World.drewN_drewN _ _ _) (congrArg (World.drewN _) (Nat.add_assoc _ _ _))⟩); have p225 : 0 ≤ (0 : Int) := (by omega); have q225 : 0 < ((rd_L1 t192 x201_3).length : Int) := of_decide_eq_true (by first | (with_reducible assumption) | assumption); obtain ⟨ad225, e225, hx225_0⟩ := Kd.at_int (by repeat (first | (with_reducible exact HR221_0.out) | (with_reducible refine Kd.C_alloc ?_ _) | (with_reducible refine Kd.C_drewN ?_ _) | (with_reducible refine Kd.C_drew ?_) | exact HR221_0.out)) 0 p225 q225; obtain rfl : ad222 = ad225 := (by injection e225); have qi225 : (0 < (rd_L1 t192 x201_3).length) = True := eq_true (by omega); (try rw [show ((0 : Int)).toNat = 0 from rfl] at hx225_0); (try rw [Addr.add_zero'] at hx225_0); replace p225 := eq_true p225; replace q225 := eq_true q225) | (go_at_call 51; (with_reducible refine (impl_IsSmooth.calls k3 a0 (rd (rd_L1 t192 x201_3) 0) t226 true _ A69.out).mono ?_); rintro e w83 ⟨rfl, hb⟩; have n0_ := Aside0.mk (Kd.S_below (by (with_reducible repeat (first | apply Kd.S_alloc | apply Kd.S_drewN | apply Kd.S_drew)); exact HO_9.out) hb); have n1_ := Aside0.mk (Kd.S_below (by (with_reducible repeat (first | apply Kd.S_alloc | apply Kd.S_drewN | apply Kd.S_drew)); exact HO_199.out) hb); have n2_ := Aside0.mk (Kd.R_below (by (with_reducible repeat (first | apply Kd.R_alloc | apply Kd.R_drewN | apply Kd.R_drew)); exact HL221_0.out) hb); have n3_ := Aside0.mk (Kd.C_below (by repeat (first | (with_reducible exact HR221_0.out) | (with_reducible refine Kd.C_alloc ?_ _) | (with_reducible refine Kd.C_drewN ?_ _) | (with_reducible refine Kd.C_drew ?_) | exact HR221_0.out)) hb); have n4_ := Aside0.mk (below_step (by repeat (first | (with_reducible first | exact HB.out | apply below_alloc | apply pw_below_drewN | apply below_drew1) | exact HB.out)) hb); clear HO_9; clear HO_199; clear HL221_0; clear HR221_0; clear HB; have HO_9 := n0_; have HO_199 := n1_; have HL221_0 := n2_; have HR221_0 := n3_; have HB := n4_; clear n0_ n1_ n2_ n3_ n4_; (try clear hb); (try clear hb2); (try clear hk); (try clear hi); have p228 : 0 ≤ (1 : Int) := (by omega); have q228 : 1 < ((rd_L1 t192 x201_3).length : Int) := of_decide_eq_true (by first | (with_reducible assumption) | assumption); obtain ⟨ad228, e228, hx228_0⟩ := Kd.at_int (by repeat (first | (with_reducible exact HR221_0.out) | (with_reducible refine Kd.C_alloc ?_ _) | (with_reducible refine Kd.C_drewN ?_ _) | (with_reducible refine Kd.C_drew ?_) | exact HR221_0.out)) 1 p228 q228; obtain rfl : ad222 = ad228 := (by injection e228); (try simp only [show (1 : Int).toNat = 1 from rfl, Nat.reduceMul, Nat.reduceEqDiff, Go.Addr.add, ↓reduceIte] at hx228_0); have qi228 : (1 < (rd_L1 t192 x201_3).length) = True := eq_true (by omega); (try rw [show ((1 : Int)).toNat = 1 from rfl] at hx228_0); replace p228 := eq_true p228; replace q228 := eq_true q228; have p229 : 0 ≤ ((ji76) : Int) := of_decide_eq_true (by first | (with_reducible assumption) | assumption); have q229 : (ji76) < (t192.length : Int) := of_decide_eq_true (by first | (with_reducible assumption) | assumption); obtain ⟨ad229, A229_0, c229_0, e229, hx229_0, hl229_0, hi229_0⟩ := at_L1 (Kd.S_reads' HO_9.out).2.2 (ji76) p229 q229; obtain rfl : ad221 = ad229 := (by injection e229); obtain ⟨ce229, hce229, hMe229, hcc229⟩ := Kd.S_get HO_9.out [] (ji76) p229 (by first | exact q229 | exact of_decide_eq_true (by first | (with_reducible assumption) | assumption) | (have e_ := (Kd.S_reads' HO_9.out).1; omega)); obtain ⟨ve229_0, rfl, ge229_0⟩ := hMe229; have hv229_0 := hcc229 0 _ rfl; rw [Nat.add_zero, show ((Kd.slice 3 (Kd.int .i64))).sz = 1 from rfl, Nat.mul_one] at hv229_0; replace hv229_0 := Option.some.inj (hv229_0.symm.trans hx229_0); rw [hv229_0] at ge229_0; have HL229_0 := Aside0.mk (show Kd.R (Kd.int .i64) 3 _ _ _ _ (rd_L1 t192 (ji76)) from ge229_0); clear hv229_0 ge229_0; clear hcc229 hce229; have HR229_0 := Aside0.mk hi229_0; have HC229_0 := Aside0.mk hl229_0; clear hi229_0 hl229_0; replace p229 := eq_true p229; replace q229 := eq_true q229; have p230 : 0 ≤ (0 : Int) := (by omega); have q230 : 0 < ((rd_L1 t192 (ji76)).length : Int) := of_decide_eq_true (by first | (with_reducible assumption) | assumption); obtain ⟨ad230, e230, hx230_0⟩ := Kd.at_int (by repeat (first | (with_reducible exact HR229_0.out) | (with_reducible refine Kd.C_alloc ?_ _) | (with_reducible refine Kd.C_drewN ?_ _) | (with_reducible refine Kd.C_drew ?_) | exact HR229_0.out)) 0 p230 q230; cases e230; have qi230 : (0 < (rd_L1 t192 (ji76)).length) = True := eq_true (by omega); (try rw [show ((0 : Int)).toNat = 0 from rfl] at hx230_0); (try rw [Addr.add_zero'] at hx230_0); replace p230 := eq_true p230; replace q230 := eq_true q230; have p231 : 0 ≤ (0 : Int) := (by omega); have q231 : 0 < ((rd_L1 t192 x201_3).length : Int) := of_decide_eq_true (by first | (with_reducible assumption) | assumption); obtain ⟨ad231, e231, hx231_0⟩ := Kd.at_int (by repeat (first | (with_reducible exact HR221_0.out) | (with_reducible refine Kd.C_alloc ?_ _) | (with_reducible refine Kd.C_drewN ?_ _) | (with_reducible refine Kd.C_drew ?_) | exact HR221_0.out)) 0 p231 q231; obtain rfl : ad222 = ad231 := (by injection e231); have qi231 : (0 < (rd_L1 t192 x201_3).length) = True := eq_true (by omega); (try rw [show ((0 : Int)).toNat = 0 from rfl] at hx231_0); (try rw [Addr.add_zero'] at hx231_0); replace p231 := eq_true p231; replace q231 := eq_true q231; have p232 : 0 ≤ (0 : Int) := (by omega); have q232 : 0 < ((rd_L1 t192 x201_3).length : Int) := of_decide_eq_true (by first | (with_reducible assumption) | assumption); obtain ⟨ad232, e232, hx232_0⟩ := Kd.at_int (by repeat (first | (with_reducible exact HR221_0.out) | (with_reducible refine Kd.C_alloc ?_ _) | (with_reducible refine Kd.C_drewN ?_ _) | (with_reducible refine Kd.C_drew ?_) | exact HR221_0.out)) 0 p232 q232; obtain rfl : ad222 = ad232 := (by injection e232); have qi232 : (0 < (rd_L1 t192 x201_3).length) = True := eq_true (by omega); (try rw [show ((0 : Int)).toNat = 0 from rfl] at hx232_0); (try rw [Addr.add_zero'] at hx232_0); replace p232 := eq_true p232; replace q232 := eq_true q232)))
            first | go_roundg k3 | (try subst hji76; go_roundg k3)
            case measure => have := HJ13.out; have := HJ39.out; have := HK3.out; omega
            case rel => exact ⟨(wrap64 (x27_3 * (rd (rd_L1 t192 x201_3) 0))), (wrap64 (x201_3 + 1)), (by first | rfl | (simp; done) | (simp [*]; done)), (by first | rfl | (simp; done) | (simp [*]; done)), H', ⟨by have := HJ13.out; have := HJ39.out; have := HK3.out; omega⟩, ⟨by (with_reducible repeat (first | apply Kd.S_alloc | apply Kd.S_drewN | apply Kd.S_drew)); exact HO_9.out⟩, ⟨by (with_reducible repeat (first | apply Kd.S_alloc | apply Kd.S_drewN | apply Kd.S_drew)); exact HO_199.out⟩, ⟨by repeat (first | (with_reducible first | exact HB.out | apply below_alloc | apply pw_below_drewN | apply below_drew1) | exact HB.out)⟩⟩
           ·as_aux_lemma =>
            rw [if_neg c75] at H
            have c75b0 : decide (0 < x201_3) = false := decide_eq_false c75
            clear c75
            have c84 : t227 = true := Classical.byContradiction fun c84 => by
             replace c84 := Bool.eq_false_iff.mpr c84
             subst c84
             have H1 : (none) = some r := by rw [if_neg (show ¬ (false = true) by decide)] at H; exact H
             clear H
             have H := H1
             clear H1
             exact absurd H (by simp)
            subst c84
            have H1 : (if (t226 != (x201_3 == (wrap64 ((t192.length : Int) - 1)))) = true then (none) else (laws_FnFactorsToldOfAll.l0 k3 a0 l1 a2 a3 t192 t200 (wrap64 (x27_3 * (rd (rd_L1 t192 x201_3) 0))) t192 (t192.length : Int) (wrap64 (x201_3 + 1)))) = some r := by rw [if_pos rfl] at H; exact H
            clear H
            have H := H1
            clear H1
            have c85 : ¬ ((t226 != (x201_3 == (wrap64 ((t192.length : Int) - 1)))) = true) := fun c85 => by
             rw [if_pos c85] at H
             exact absurd H (by simp)
            rw [if_neg c85] at H
            have c85b0 : (t226 != (x201_3 == (wrap64 ((t192.length : Int) - 1)))) = false := by simpa using c85
            (try (have c85b1 : decide (t226 = (x201_3 == (wrap64 ((t192.length : Int) - 1)))) = true := by simpa using c85))
            (try (have c85b2 : (t226 == (x201_3 == (wrap64 ((t192.length : Int) - 1)))) = true := by simpa using c85))
            clear c85
            have H' := Aside0.mk H
            clear H
            have p221 : 0 ≤ (x201_3 : Int) := of_decide_eq_true (by first | (with_reducible assumption) | assumption)
            have q221 : x201_3 < (t192.length : Int) := of_decide_eq_true (by first | (with_reducible assumption) | assumption)
            obtain ⟨ad221, A221_0, c221_0, e221, hx221_0, hl221_0, hi221_0⟩ := at_L1 (Kd.S_reads' HO_199.out).2.2 x201_3 p221 q221
            cases e221
            obtain ⟨ce221, hce221, hMe221, hcc221⟩ := Kd.S_get HO_199.out [] x201_3 p221 (by first | exact q221 | exact of_decide_eq_true (by first | (with_reducible assumption) | assumption) | (have e_ := (Kd.S_reads' HO_199.out).1; omega))
            obtain ⟨ve221_0, rfl, ge221_0⟩ := hMe221
            have hv221_0 := hcc221 0 _ rfl
            rw [Nat.add_zero, show ((Kd.slice 3 (Kd.int .i64))).sz = 1 from rfl, Nat.mul_one] at hv221_0
            replace hv221_0 := Option.some.inj (hv221_0.symm.trans hx221_0)
            rw [hv221_0] at ge221_0
            have HL221_0 := Aside0.mk (show Kd.R (Kd.int .i64) 3 _ _ _ _ (rd_L1 t192 x201_3) from ge221_0)
            clear hv221_0 ge221_0
            clear hcc221 hce221
            have HR221_0 := Aside0.mk hi221_0
            have HC221_0 := Aside0.mk hl221_0
            clear hi221_0 hl221_0
            replace p221 := eq_true p221
            replace q221 := eq_true q221
            have p222 : 0 ≤ (0 : Int) := (by omega)
            have q222 : 0 < ((rd_L1 t192 x201_3).length : Int) := of_decide_eq_true (by first | (with_reducible assumption) | assumption)
            obtain ⟨ad222, e222, hx222_0⟩ := Kd.at_int (by repeat (first | (with_reducible exact HR221_0.out) | (with_reducible refine Kd.C_alloc ?_ _) | (with_reducible refine Kd.C_drewN ?_ _) | (with_reducible refine Kd.C_drew ?_) | exact HR221_0.out)) 0 p222 q222
            cases e222
            have qi222 : (0 < (rd_L1 t192 x201_3).length) = True := eq_true (by omega)
            (try rw [show ((0 : Int)).toNat = 0 from rfl] at hx222_0)
            (try rw [Addr.add_zero'] at hx222_0)
            replace p222 := eq_true p222
            replace q222 := eq_true q222
            as_aux_lemma =>
            go_wp2_with (first | (go_at_call 48; (with_reducible refine (impl_IsPrime.calls k3 (rd (rd_L1 t192 x201_3) 0) true true _ A68.out).mono ?_); rintro e w' ⟨rfl, ⟨nd, rfl⟩⟩; (try first | exact ⟨rfl, _, World.drewN_drewN _ _ _⟩ | exact ⟨rfl, _, Eq.trans (World.drewN_drewN _ _ _) (congrArg (World.drewN _) (Nat.add_assoc _ _ _))⟩); have p225 : 0 ≤ (0 : Int) := (by omega); have q225 : 0 < ((rd_L1 t192 x201_3).length : Int) := of_decide_eq_true (by first | (with_reducible assumption) | assumption); obtain ⟨ad225, e225, hx225_0⟩ := Kd.at_int (by repeat (first | (with_reducible exact HR221_0.out) | (with_reducible refine Kd.C_alloc ?_ _) | (with_reducible refine Kd.C_drewN ?_ _) | (with_reducible refine Kd.C_drew ?_) | exact HR221_0.out)) 0 p225 q225; obtain rfl : ad222 = ad225 := (by injection e225); have qi225 : (0 < (rd_L1 t192 x201_3).length) = True := eq_true (by omega); (try rw [show ((0 : Int)).toNat = 0 from rfl] at hx225_0); (try rw [Addr.add_zero'] at hx225_0); replace p225 := eq_true p225; replace q225 := eq_true q225))
            as_aux_lemma =>
            go_wp2_with (first | (go_at_call 51; (with_reducible refine (impl_IsSmooth.calls k3 a0 (rd (rd_L1 t192 x201_3) 0) t226 true _ A69.out).mono ?_); rintro e w86 ⟨rfl, hb⟩; have n0_ := Aside0.mk (Kd.S_below (by (with_reducible repeat (first | apply Kd.S_alloc | apply Kd.S_drewN | apply Kd.S_drew)); exact HO_9.out) hb); have n1_ := Aside0.mk (Kd.S_below (by (with_reducible repeat (first | apply Kd.S_alloc | apply Kd.S_drewN | apply Kd.S_drew)); exact HO_199.out) hb); have n2_ := Aside0.mk (Kd.R_below (by (with_reducible repeat (first | apply Kd.R_alloc | apply Kd.R_drewN | apply Kd.R_drew)); exact HL221_0.out) hb); have n3_ := Aside0.mk (Kd.C_below (by repeat (first | (with_reducible exact HR221_0.out) | (with_reducible refine Kd.C_alloc ?_ _) | (with_reducible refine Kd.C_drewN ?_ _) | (with_reducible refine Kd.C_drew ?_) | exact HR221_0.out)) hb); have n4_ := Aside0.mk (below_step (by repeat (first | (with_reducible first | exact HB.out | apply below_alloc | apply pw_below_drewN | apply below_drew1) | exact HB.out)) hb); clear HO_9; clear HO_199; clear HL221_0; clear HR221_0; clear HB; have HO_9 := n0_; have HO_199 := n1_; have HL221_0 := n2_; have HR221_0 := n3_; have HB := n4_; clear n0_ n1_ n2_ n3_ n4_; (try clear hb); (try clear hb2); (try clear hk); (try clear hi); have p228 : 0 ≤ (1 : Int) := (by omega); have q228 : 1 < ((rd_L1 t192 x201_3).length : Int) := of_decide_eq_true (by first | (with_reducible assumption) | assumption); obtain ⟨ad228, e228, hx228_0⟩ := Kd.at_int (by repeat (first | (with_reducible exact HR221_0.out) | (with_reducible refine Kd.C_alloc ?_ _) | (with_reducible refine Kd.C_drewN ?_ _) | (with_reducible refine Kd.C_drew ?_) | exact HR221_0.out)) 1 p228 q228; obtain rfl : ad222 = ad228 := (by injection e228); (try simp only [show (1 : Int).toNat = 1 from rfl, Nat.reduceMul, Nat.reduceEqDiff, Go.Addr.add, ↓reduceIte] at hx228_0); have qi228 : (1 < (rd_L1 t192 x201_3).length) = True := eq_true (by omega); (try rw [show ((1 : Int)).toNat = 1 from rfl] at hx228_0); replace p228 := eq_true p228; replace q228 := eq_true q228; have p233 : 0 ≤ (0 : Int) := (by omega); have q233 : 0 < ((rd_L1 t192 x201_3).length : Int) := of_decide_eq_true (by first | (with_reducible assumption) | assumption); obtain ⟨ad233, e233, hx233_0⟩ := Kd.at_int (by repeat (first | (with_reducible exact HR221_0.out) | (with_reducible refine Kd.C_alloc ?_ _) | (with_reducible refine Kd.C_drewN ?_ _) | (with_reducible refine Kd.C_drew ?_) | exact HR221_0.out)) 0 p233 q233; obtain rfl : ad222 = ad233 := (by injection e233); have qi233 : (0 < (rd_L1 t192 x201_3).length) = True := eq_true (by omega); (try rw [show ((0 : Int)).toNat = 0 from rfl] at hx233_0); (try rw [Addr.add_zero'] at hx233_0); replace p233 := eq_true p233; replace q233 := eq_true q233))
            repeat (go_quiet (first | (go_at_call 48; (with_reducible refine (impl_IsPrime.calls k3 (rd (rd_L1 t192 x201_3) 0) true true _ A68.out).mono ?_); rintro e w' ⟨rfl, ⟨nd, rfl⟩⟩; (try first | exact ⟨rfl, _, World.drewN_drewN _ _ _⟩ | exact ⟨rfl, _, Eq.trans (World.drewN_drewN _ _ _) (congrArg (World.drewN _) (Nat.add_assoc _ _ _))⟩); have p225 : 0 ≤ (0 : Int) := (by omega); have q225 : 0 < ((rd_L1 t192 x201_3).length : Int) := of_decide_eq_true (by first | (with_reducible assumption) | assumption); obtain ⟨ad225, e225, hx225_0⟩ := Kd.at_int (by repeat (first | (with_reducible exact HR221_0.out) | (with_reducible refine Kd.C_alloc ?_ _) | (with_reducible refine Kd.C_drewN ?_ _) | (with_reducible refine Kd.C_drew ?_) | exact HR221_0.out)) 0 p225 q225; obtain rfl : ad222 = ad225 := (by injection e225); have qi225 : (0 < (rd_L1 t192 x201_3).length) = True := eq_true (by omega); (try rw [show ((0 : Int)).toNat = 0 from rfl] at hx225_0); (try rw [Addr.add_zero'] at hx225_0); replace p225 := eq_true p225; replace q225 := eq_true q225) | (go_at_call 51; (with_reducible refine (impl_IsSmooth.calls k3 a0 (rd (rd_L1 t192 x201_3) 0) t226 true _ A69.out).mono ?_); rintro e w86 ⟨rfl, hb⟩; have n0_ := Aside0.mk (Kd.S_below (by (with_reducible repeat (first | apply Kd.S_alloc | apply Kd.S_drewN | apply Kd.S_drew)); exact HO_9.out) hb); have n1_ := Aside0.mk (Kd.S_below (by (with_reducible repeat (first | apply Kd.S_alloc | apply Kd.S_drewN | apply Kd.S_drew)); exact HO_199.out) hb); have n2_ := Aside0.mk (Kd.R_below (by (with_reducible repeat (first | apply Kd.R_alloc | apply Kd.R_drewN | apply Kd.R_drew)); exact HL221_0.out) hb); have n3_ := Aside0.mk (Kd.C_below (by repeat (first | (with_reducible exact HR221_0.out) | (with_reducible refine Kd.C_alloc ?_ _) | (with_reducible refine Kd.C_drewN ?_ _) | (with_reducible refine Kd.C_drew ?_) | exact HR221_0.out)) hb); have n4_ := Aside0.mk (below_step (by repeat (first | (with_reducible first | exact HB.out | apply below_alloc | apply pw_below_drewN | apply below_drew1) | exact HB.out)) hb); clear HO_9; clear HO_199; clear HL221_0; clear HR221_0; clear HB; have HO_9 := n0_; have HO_199 := n1_; have HL221_0 := n2_; have HR221_0 := n3_; have HB := n4_; clear n0_ n1_ n2_ n3_ n4_; (try clear hb); (try clear hb2); (try clear hk); (try clear hi); have p228 : 0 ≤ (1 : Int) := (by omega); have q228 : 1 < ((rd_L1 t192 x201_3).length : Int) := of_decide_eq_true (by first | (with_reducible assumption) | assumption); obtain ⟨ad228, e228, hx228_0⟩ := Kd.at_int (by repeat (first | (with_reducible exact HR221_0.out) | (with_reducible refine Kd.C_alloc ?_ _) | (with_reducible refine Kd.C_drewN ?_ _) | (with_reducible refine Kd.C_drew ?_) | exact HR221_0.out)) 1 p228 q228; obtain rfl : ad222 = ad228 := (by injection e228); (try simp only [show (1 : Int).toNat = 1 from rfl, Nat.reduceMul, Nat.reduceEqDiff, Go.Addr.add, ↓reduceIte] at hx228_0); have qi228 : (1 < (rd_L1 t192 x201_3).length) = True := eq_true (by omega); (try rw [show ((1 : Int)).toNat = 1 from rfl] at hx228_0); replace p228 := eq_true p228; replace q228 := eq_true q228; have p233 : 0 ≤ (0 : Int) := (by omega); have q233 : 0 < ((rd_L1 t192 x201_3).length : Int) := of_decide_eq_true (by first | (with_reducible assumption) | assumption); obtain ⟨ad233, e233, hx233_0⟩ := Kd.at_int (by repeat (first | (with_reducible exact HR221_0.out) | (with_reducible refine Kd.C_alloc ?_ _) | (with_reducible refine Kd.C_drewN ?_ _) | (with_reducible refine Kd.C_drew ?_) | exact HR221_0.out)) 0 p233 q233; obtain rfl : ad222 = ad233 := (by injection e233); have qi233 : (0 < (rd_L1 t192 x201_3).length) = True := eq_true (by omega); (try rw [show ((0 : Int)).toNat = 0 from rfl] at hx233_0); (try rw [Addr.add_zero'] at hx233_0); replace p233 := eq_true p233; replace q233 := eq_true q233)); try go_wp2_with (first | (go_at_call 48; (with_reducible refine (impl_IsPrime.calls k3 (rd (rd_L1 t192 x201_3) 0) true true _ A68.out).mono ?_); rintro e w' ⟨rfl, ⟨nd, rfl⟩⟩; (try first | exact ⟨rfl, _, World.drewN_drewN _ _ _⟩ | exact ⟨rfl, _, Eq.trans (World.drewN_drewN _ _ _) (congrArg (World.drewN _) (Nat.add_assoc _ _ _))⟩); have p225 : 0 ≤ (0 : Int) := (by omega); have q225 : 0 < ((rd_L1 t192 x201_3).length : Int) := of_decide_eq_true (by first | (with_reducible assumption) | assumption); obtain ⟨ad225, e225, hx225_0⟩ := Kd.at_int (by repeat (first | (with_reducible exact HR221_0.out) | (with_reducible refine Kd.C_alloc ?_ _) | (with_reducible refine Kd.C_drewN ?_ _) | (with_reducible refine Kd.C_drew ?_) | exact HR221_0.out)) 0 p225 q225; obtain rfl : ad222 = ad225 := (by injection e225); have qi225 : (0 < (rd_L1 t192 x201_3).length) = True := eq_true (by omega); (try rw [show ((0 : Int)).toNat = 0 from rfl] at hx225_0); (try rw [Addr.add_zero'] at hx225_0); replace p225 := eq_true p225; replace q225 := eq_true q225) | (go_at_call 51; (with_reducible refine (impl_IsSmooth.calls k3 a0 (rd (rd_L1 t192 x201_3) 0) t226 true _ A69.out).mono ?_); rintro e w86 ⟨rfl, hb⟩; have n0_ := Aside0.mk (Kd.S_below (by (with_reducible repeat (first | apply Kd.S_alloc | apply Kd.S_drewN | apply Kd.S_drew)); exact HO_9.out) hb); have n1_ := Aside0.mk (Kd.S_below (by (with_reducible repeat (first | apply Kd.S_alloc | apply Kd.S_drewN | apply Kd.S_drew)); exact HO_199.out) hb); have n2_ := Aside0.mk (Kd.R_below (by (with_reducible repeat (first | apply Kd.R_alloc | apply Kd.R_drewN | apply Kd.R_drew)); exact HL221_0.out) hb); have n3_ := Aside0.mk (Kd.C_below (by repeat (first | (with_reducible exact HR221_0.out) | (with_reducible refine Kd.C_alloc ?_ _) | (with_reducible refine Kd.C_drewN ?_ _) | (with_reducible refine Kd.C_drew ?_) | exact HR221_0.out)) hb); have n4_ := Aside0.mk (below_step (by repeat (first | (with_reducible first | exact HB.out | apply below_alloc | apply pw_below_drewN | apply below_drew1) | exact HB.out)) hb); clear HO_9; clear HO_199; clear HL221_0; clear HR221_0; clear HB; have HO_9 := n0_; have HO_199 := n1_; have HL221_0 := n2_; have HR221_0 := n3_; have HB := n4_; clear n0_ n1_ n2_ n3_ n4_; (try clear hb); (try clear hb2); (try clear hk); (try clear hi); have p228 : 0 ≤ (1 : Int) := (by omega); have q228 : 1 < ((rd_L1 t192 x201_3).length : Int) := of_decide_eq_true (by first | (with_reducible assumption) | assumption); obtain ⟨ad228, e228, hx228_0⟩ := Kd.at_int (by repeat (first | (with_reducible exact HR221_0.out) | (with_reducible refine Kd.C_alloc ?_ _) | (with_reducible refine Kd.C_drewN ?_ _) | (with_reducible refine Kd.C_drew ?_) | exact HR221_0.out)) 1 p228 q228; obtain rfl : ad222 = ad228 := (by injection e228); (try simp only [show (1 : Int).toNat = 1 from rfl, Nat.reduceMul, Nat.reduceEqDiff, Go.Addr.add, ↓reduceIte] at hx228_0); have qi228 : (1 < (rd_L1 t192 x201_3).length) = True := eq_true (by omega); (try rw [show ((1 : Int)).toNat = 1 from rfl] at hx228_0); replace p228 := eq_true p228; replace q228 := eq_true q228; have p233 : 0 ≤ (0 : Int) := (by omega); have q233 : 0 < ((rd_L1 t192 x201_3).length : Int) := of_decide_eq_true (by first | (with_reducible assumption) | assumption); obtain ⟨ad233, e233, hx233_0⟩ := Kd.at_int (by repeat (first | (with_reducible exact HR221_0.out) | (with_reducible refine Kd.C_alloc ?_ _) | (with_reducible refine Kd.C_drewN ?_ _) | (with_reducible refine Kd.C_drew ?_) | exact HR221_0.out)) 0 p233 q233; obtain rfl : ad222 = ad233 := (by injection e233); have qi233 : (0 < (rd_L1 t192 x201_3).length) = True := eq_true (by omega); (try rw [show ((0 : Int)).toNat = 0 from rfl] at hx233_0); (try rw [Addr.add_zero'] at hx233_0); replace p233 := eq_true p233; replace q233 := eq_true q233)))
            first | go_roundg k3 | (try subst hji76; go_roundg k3)
            case measure => have := HJ13.out; have := HJ39.out; have := HK3.out; omega
            case rel => exact ⟨(wrap64 (x27_3 * (rd (rd_L1 t192 x201_3) 0))), (wrap64 (x201_3 + 1)), (by first | rfl | (simp; done) | (simp [*]; done)), (by first | rfl | (simp; done) | (simp [*]; done)), H', ⟨by have := HJ13.out; have := HJ39.out; have := HK3.out; omega⟩, ⟨by (with_reducible repeat (first | apply Kd.S_alloc | apply Kd.S_drewN | apply Kd.S_drew)); exact HO_9.out⟩, ⟨by (with_reducible repeat (first | apply Kd.S_alloc | apply Kd.S_drewN | apply Kd.S_drew)); exact HO_199.out⟩, ⟨by repeat (first | (with_reducible first | exact HB.out | apply below_alloc | apply pw_below_drewN | apply below_drew1) | exact HB.out)⟩⟩
          ·as_aux_lemma =>
           rw [if_neg c64] at H
           have c64b0 : decide (x201_3 < (t192.length : Int)) = false := decide_eq_false c64
           clear c64
           have c87 : x27_3 = t200 := Classical.byContradiction fun c87 => by
            rw [if_neg c87] at H
            exact absurd H (by simp)
           rw [if_pos c87] at H
           have c87b0 : (x27_3 == t200) = true := beq_iff_eq.mpr c87
           have c87b1 : (x27_3 != t200) = false := bne_eq_false_iff_eq.mpr c87
           clear c87
           have H' := Aside0.mk H
           clear H
           go_wp2
           repeat (go_quiet (fail); try go_wp2)
           go_meet
           case rel => exact ⟨_, H', ⟨by have := HJ13.out; have := HJ39.out; have := HK3.out; first | omega | exact Nat.le_refl _⟩, ⟨by repeat (first | (with_reducible first | exact HB.out | apply below_alloc | apply pw_below_drewN | apply below_drew1) | exact HB.out)⟩⟩
     ·replace c38 := Bool.eq_false_iff.mpr c38
      subst c38
      have H1 : (laws_FnFactorsToldOfAll.j3 kj13 l1 a2 a3) = some r := by rw [if_neg (show ¬ (false = true) by decide)] at H; exact H
      clear H
      have H := H1
      clear H1
      have H' := Aside0.mk H
      clear H
      go_wp2
      repeat (go_quiet (fail); try go_wp2)
      go_meet
      case rel => exact ⟨_, H', ⟨by have := HJ13.out; first | omega | exact Nat.le_refl _⟩, ⟨by repeat (first | (with_reducible first | exact HB.out | apply below_alloc | apply pw_below_drewN | apply below_drew1) | exact HB.out)⟩⟩
    case rest =>
     as_aux_lemma =>
     clear HC37
     try clear c1
     try clear c2
     try clear p2
     try clear q2
     try clear hx2
     try clear qi2
     try clear c3
     try clear c4
     try clear c5
     try clear c5b0
     try clear c5b1
     try clear c6
     try clear p6
     try clear c7
     try clear c8
     try clear c12
     try clear c19
     try clear c19b0
     try clear c19b1
     try clear c19b2
     try clear c21
     try clear p21
     try clear q21
     try clear hx21
     try clear qi21
     try clear c22
     try clear c22b0
     try clear c22b1
     try clear c22b2
     try clear p22
     try clear q22
     try clear hx22
     try clear qi22
     try clear c23
     try clear c23b0
     try clear c23b1
     try clear p23
     try clear q23
     try clear hx23
     try clear qi23
     try clear c24
     try clear c24b0
     try clear c24b1
     try clear c24b2
     try clear c25
     try clear c25b0
     try clear c25b1
     try clear c26
     try clear c26b0
     try clear c26b1
     try clear c26b2
     try clear c27
     try clear c27b0
     try clear c27b1
     try clear c27b2
     try clear c28
     try clear c28b0
     try clear c28b1
     try clear c28b2
     try clear c29
     try clear c30
     try clear c30b0
     try clear c30b1
     try clear c30b2
     try clear c33
     try clear c33b0
     try clear c33b1
     try clear c33b2
     try clear c36
     try clear c38
     try clear c43
     try clear c44
     try clear c44b0
     try clear c44b1
     try clear c45
     try clear c45b0
     try clear c45b1
     try clear c46
     try clear c46b0
     try clear c46b1
     try clear c47
     try clear c47b0
     try clear c47b1
     try clear c48
     try clear c48b0
     try clear c48b1
     try clear c48b2
     try clear c49
     try clear c49b0
     try clear c49b1
     try clear c50
     try clear c50b0
     try clear c50b1
     try clear c51
     try clear c52
     try clear c52b0
     try clear c52b1
     try clear c53
     try clear c53b0
     try clear c53b1
     try clear c54
     try clear c54b0
     try clear c54b1
     try clear c55
     try clear c55b0
     try clear c55b1
     try clear c55b2
     try clear c56
     try clear c56b0
     try clear c56b1
     try clear c57
     try clear c57b0
     try clear c57b1
     try clear c58
     try clear c59
     try clear c59b0
     try clear c59b1
     try clear c60
     try clear c60b0
     try clear c60b1
     try clear c61
     try clear c61b0
     try clear c61b1
     try clear c62
     try clear c62b0
     try clear c62b1
     try clear c63
     try clear c64
     try clear c64b0
     try clear p64
     try clear c65
     try clear c65b0
     try clear c66
     try clear c66b0
     try clear c67
     try clear c67b0
     try clear c67b1
     try clear c70
     try clear c70b0
     try clear c70b1
     try clear c71
     try clear c72
     try clear c73
     try clear c73b0
     try clear c73b1
     try clear c74
     try clear c74b0
     try clear c75
     try clear c75b0
     try clear c77
     try clear c77b0
     try clear c78
     try clear c78b0
     try clear c79
     try clear c79b0
     try clear c79b1
     try clear c80
     try clear c80b0
     try clear c81
     try clear c82
     try clear c82b0
     try clear c82b1
     try clear c82b2
     try clear c84
     try clear c85
     try clear c85b0
     try clear c85b1
     try clear c85b2
     try clear c87
     try clear c87b0
     try clear c87b1
     try clear hx215_0
     try clear hx216_0
     try clear hx217_0
     try clear hx218_0
     try clear hx219_0
     try clear hx220_0
     try clear hx221_0
     try clear hx222_0
     try clear hx225_0
     try clear hx228_0
     try clear hx229_0
     try clear hx230_0
     try clear hx231_0
     try clear hx232_0
     try clear hx233_0
     try clear p2
     try clear p21
     try clear p215
     try clear p216
     try clear p217
     try clear p218
     try clear p219
     try clear p22
     try clear p220
     try clear p221
     try clear p222
     try clear p225
     try clear p228
     try clear p229
     try clear p230
     try clear p231
     try clear p232
     try clear p233
     try clear q2
     try clear q21
     try clear q215
     try clear q216
     try clear q217
     try clear q218
     try clear q219
     try clear q22
     try clear q220
     try clear q221
     try clear q222
     try clear q225
     try clear q228
     try clear q229
     try clear q230
     try clear q231
     try clear q232
     try clear q233
     obtain ⟨kq, HA, HJ36, HB⟩ := hcut
     cases kq with
     | zero => exact absurd HA.out (by simp [laws_FnFactorsToldOfAll.j3])
     | succ kj36 =>
      have H := HA.out
      clear HA
      simp only [laws_FnFactorsToldOfAll.j3] at H
      replace H := Option.bind_eq_some_iff.mp H
      obtain ⟨⟨t234, t235⟩, A880, H⟩ := H
      replace H : ((spec_NumberOfFactors.f kj36 l1).bind fun bt236 => ((impl_IsSmooth.f kj36 a2 a3).bind fun bt238 => ((spec_IsSmooth.f kj36 a2 a3).bind fun bt240 => (if (t235 != bt236.2) = true then (none) else (if t234 = bt236.1 then (if (bt238.2 != bt240.2) = true then (none) else (if (bt238.1 != bt240.1) = true then (none) else (if t235 = true then ((impl_FactorsOf.f kj36 t234).bind fun bt242 => (if bt242.2 = true then ((laws_gLists.f kj36 bt242.1 l1).bind fun t246 => (some t246)) else (none))) else (some true)))) else (none)))))) = some r := H
      have A88 := Aside0.mk A880
      clear A880
      replace H := Option.bind_eq_some_iff.mp H
      obtain ⟨⟨t236, t237⟩, A890, H⟩ := H
      replace H : ((impl_IsSmooth.f kj36 a2 a3).bind fun bt238 => ((spec_IsSmooth.f kj36 a2 a3).bind fun bt240 => (if (t235 != t237) = true then (none) else (if t234 = t236 then (if (bt238.2 != bt240.2) = true then (none) else (if (bt238.1 != bt240.1) = true then (none) else (if t235 = true then ((impl_FactorsOf.f kj36 t234).bind fun bt242 => (if bt242.2 = true then ((laws_gLists.f kj36 bt242.1 l1).bind fun t246 => (some t246)) else (none))) else (some true)))) else (none))))) = some r := H
      have A89 := Aside0.mk A890
      clear A890
      replace H := Option.bind_eq_some_iff.mp H
      obtain ⟨⟨t238, t239⟩, A900, H⟩ := H
      replace H : ((spec_IsSmooth.f kj36 a2 a3).bind fun bt240 => (if (t235 != t237) = true then (none) else (if t234 = t236 then (if (t239 != bt240.2) = true then (none) else (if (t238 != bt240.1) = true then (none) else (if t235 = true then ((impl_FactorsOf.f kj36 t234).bind fun bt242 => (if bt242.2 = true then ((laws_gLists.f kj36 bt242.1 l1).bind fun t246 => (some t246)) else (none))) else (some true)))) else (none)))) = some r := H
      have A90 := Aside0.mk A900
      clear A900
      replace H := Option.bind_eq_some_iff.mp H
      obtain ⟨⟨t240, t241⟩, A910, H⟩ := H
      replace H : (if (t235 != t237) = true then (none) else (if t234 = t236 then (if (t239 != t241) = true then (none) else (if (t238 != t240) = true then (none) else (if t235 = true then ((impl_FactorsOf.f kj36 t234).bind fun bt242 => (if bt242.2 = true then ((laws_gLists.f kj36 bt242.1 l1).bind fun t246 => (some t246)) else (none))) else (some true)))) else (none))) = some r := H
      have A91 := Aside0.mk A910
      clear A910
      have c92 : ¬ ((t235 != t237) = true) := fun c92 => by
       rw [if_pos c92] at H
       exact absurd H (by simp)
      rw [if_neg c92] at H
      have c92b0 : (t235 != t237) = false := by simpa using c92
      (try (have c92b1 : decide (t235 = t237) = true := by simpa using c92))
      (try (have c92b2 : (t235 == t237) = true := by simpa using c92))
      clear c92
      by_cases c93 : t234 = t236
      ·as_aux_lemma =>
       rw [if_pos c93] at H
       have c93b0 : (t234 == t236) = true := beq_iff_eq.mpr c93
       have c93b1 : (t234 != t236) = false := bne_eq_false_iff_eq.mpr c93
       clear c93
       have c94 : ¬ ((t239 != t241) = true) := fun c94 => by
        rw [if_pos c94] at H
        exact absurd H (by simp)
       rw [if_neg c94] at H
       have c94b0 : (t239 != t241) = false := by simpa using c94
       (try (have c94b1 : decide (t239 = t241) = true := by simpa using c94))
       (try (have c94b2 : (t239 == t241) = true := by simpa using c94))
       clear c94
       have c95 : ¬ ((t238 != t240) = true) := fun c95 => by
        rw [if_pos c95] at H
        exact absurd H (by simp)
       rw [if_neg c95] at H
       have c95b0 : (t238 != t240) = false := by simpa using c95
       (try (have c95b1 : decide (t238 = t240) = true := by simpa using c95))
       (try (have c95b2 : (t238 == t240) = true := by simpa using c95))
       clear c95
       by_cases c96 : t235 = true
       ·subst c96
        have H1 : ((impl_FactorsOf.f kj36 t234).bind fun bt242 => (if bt242.2 = true then ((laws_gLists.f kj36 bt242.1 l1).bind fun t246 => (some t246)) else (none))) = some r := by rw [if_pos rfl] at H; exact H
        clear H
        have H := H1
        clear H1
        replace H := Option.bind_eq_some_iff.mp H
        obtain ⟨⟨t242, t243⟩, A970, H⟩ := H
        replace H : (if t243 = true then ((laws_gLists.f kj36 t242 l1).bind fun t246 => (some t246)) else (none)) = some r := H
        have A97 := Aside0.mk A970
        clear A970
        have c98 : t243 = true := Classical.byContradiction fun c98 => by
         replace c98 := Bool.eq_false_iff.mpr c98
         subst c98
         have H1 : (none) = some r := by rw [if_neg (show ¬ (false = true) by decide)] at H; exact H
         clear H
         have H := H1
         clear H1
         exact absurd H (by simp)
        subst c98
        have H1 : ((laws_gLists.f kj36 t242 l1).bind fun t246 => (some t246)) = some r := by rw [if_pos rfl] at H; exact H
        clear H
        have H := H1
        clear H1
        replace H := Option.bind_eq_some_iff.mp H
        obtain ⟨t246, A990, H⟩ := H
        replace H : (some t246) = some r := H
        have A99 := Aside0.mk A990
        clear A990
        obtain rfl := Option.some.inj H
        as_aux_lemma =>
        go_wp2_with (first | (go_at_call 39; (with_reducible refine (impl_NumberOfFactors.calls kj36 _ _ l1 t234 true _ ?side1 ?side2 A88.out).mono ?_); (case side1 => repeat (first | exact (Kd.C_below HR1.out HB.out) | (with_reducible refine Kd.C_alloc ?_ _) | (with_reducible refine Kd.C_drewN ?_ _) | (with_reducible refine Kd.C_drew ?_))); (case side2 => exact HC1.out); rintro e w100 ⟨rfl, hb⟩; have n0_ := Aside0.mk (below_step (by repeat (first | (with_reducible first | exact HB.out | apply below_alloc | apply pw_below_drewN | apply below_drew1) | exact HB.out)) hb); clear HB; have HB := n0_; clear n0_; (try clear hb); (try clear hb2); (try clear hk); (try clear hi)))
        as_aux_lemma =>
        go_wp2_with (first | (go_at_call 37; (with_reducible refine (spec_NumberOfFactors.calls kj36 _ _ l1 t236 t237 _ ?side1 ?side2 A89.out).mono ?_); (case side1 => repeat (first | exact (Kd.C_below HR1.out HB.out) | (with_reducible refine Kd.C_alloc ?_ _) | (with_reducible refine Kd.C_drewN ?_ _) | (with_reducible refine Kd.C_drew ?_))); (case side2 => exact HC1.out); rintro e w101 ⟨rfl, hb⟩; have n0_ := Aside0.mk (below_step (by repeat (first | (with_reducible first | exact HB.out | apply below_alloc | apply pw_below_drewN | apply below_drew1) | exact HB.out)) hb); clear HB; have HB := n0_; clear n0_; (try clear hb); (try clear hb2); (try clear hk); (try clear hi)))
        as_aux_lemma =>
        go_wp2_with (first | (go_at_call 51; (with_reducible refine (impl_IsSmooth.calls kj36 a2 a3 t238 t239 _ A90.out).mono ?_); rintro e w102 ⟨rfl, hb⟩; have n0_ := Aside0.mk (below_step (by repeat (first | (with_reducible first | exact HB.out | apply below_alloc | apply pw_below_drewN | apply below_drew1) | exact HB.out)) hb); clear HB; have HB := n0_; clear n0_; (try clear hb); (try clear hb2); (try clear hk); (try clear hi)))
        as_aux_lemma =>
        go_wp2_with (first | (go_at_call 52; (with_reducible refine (spec_IsSmooth.calls kj36 a2 a3 t240 t241 _ A91.out).mono ?_); rintro e w103 ⟨rfl, hb⟩; have n0_ := Aside0.mk (below_step (by repeat (first | (with_reducible first | exact HB.out | apply below_alloc | apply pw_below_drewN | apply below_drew1) | exact HB.out)) hb); clear HB; have HB := n0_; clear n0_; (try clear hb); (try clear hb2); (try clear hk); (try clear hi)))
        as_aux_lemma =>
        go_wp2_with (first | (go_at_call 32; (with_reducible refine (impl_FactorsOf.calls kj36 t234 t242 true _ A97.out).mono ?_); rintro e w104 ⟨v244, rfl, ho0, hb⟩; have n0_ := Aside0.mk (Kd.S_lower ho0 (below_size (by repeat (first | (with_reducible first | exact HB.out | apply below_alloc | apply pw_below_drewN | apply below_drew1) | exact HB.out)))); have n1_ := Aside0.mk (below_step (by repeat (first | (with_reducible first | exact HB.out | apply below_alloc | apply pw_below_drewN | apply below_drew1) | exact HB.out)) hb); clear HB; have HO245 := n0_; have HB := n1_; clear n0_ n1_; (try clear hb); (try clear hb2); (try clear hk); (try clear hi); (try clear ho0); obtain ⟨Ao105, co105, eo105⟩ := Kd.S_slice HO245.out; subst eo105))
        as_aux_lemma =>
        go_wp2_with (first | (go_at_call 50; (with_reducible refine (laws_gLists.calls kj36 _ _ t242 _ _ l1 t246 _ ?side1 ?side2 ?side3 ?side4 A99.out).mono ?_); (case side1 => repeat (first | exact (Kd.S_reads' HO245.out).2.2 | (with_reducible refine Kd.C_alloc ?_ _) | (with_reducible refine Kd.C_drewN ?_ _) | (with_reducible refine Kd.C_drew ?_))); (case side2 => exact (Kd.S_reads' HO245.out).2.1); (case side3 => repeat (first | exact (Kd.C_below HR1.out HB.out) | (with_reducible refine Kd.C_alloc ?_ _) | (with_reducible refine Kd.C_drewN ?_ _) | (with_reducible refine Kd.C_drew ?_))); (case side4 => exact HC1.out); rintro e w' ⟨rfl, ⟨nd, rfl⟩⟩; (try first | exact ⟨rfl, _, World.drewN_drewN _ _ _⟩ | exact ⟨rfl, _, Eq.trans (World.drewN_drewN _ _ _) (congrArg (World.drewN _) (Nat.add_assoc _ _ _))⟩)))
        repeat (go_quiet (first | (go_at_call 39; (with_reducible refine (impl_NumberOfFactors.calls kj36 _ _ l1 t234 true _ ?side1 ?side2 A88.out).mono ?_); (case side1 => repeat (first | exact (Kd.C_below HR1.out HB.out) | (with_reducible refine Kd.C_alloc ?_ _) | (with_reducible refine Kd.C_drewN ?_ _) | (with_reducible refine Kd.C_drew ?_))); (case side2 => exact HC1.out); rintro e w100 ⟨rfl, hb⟩; have n0_ := Aside0.mk (below_step (by repeat (first | (with_reducible first | exact HB.out | apply below_alloc | apply pw_below_drewN | apply below_drew1) | exact HB.out)) hb); clear HB; have HB := n0_; clear n0_; (try clear hb); (try clear hb2); (try clear hk); (try clear hi)) | (go_at_call 37; (with_reducible refine (spec_NumberOfFactors.calls kj36 _ _ l1 t236 t237 _ ?side1 ?side2 A89.out).mono ?_); (case side1 => repeat (first | exact (Kd.C_below HR1.out HB.out) | (with_reducible refine Kd.C_alloc ?_ _) | (with_reducible refine Kd.C_drewN ?_ _) | (with_reducible refine Kd.C_drew ?_))); (case side2 => exact HC1.out); rintro e w101 ⟨rfl, hb⟩; have n0_ := Aside0.mk (below_step (by repeat (first | (with_reducible first | exact HB.out | apply below_alloc | apply pw_below_drewN | apply below_drew1) | exact HB.out)) hb); clear HB; have HB := n0_; clear n0_; (try clear hb); (try clear hb2); (try clear hk); (try clear hi)) | (go_at_call 51; (with_reducible refine (impl_IsSmooth.calls kj36 a2 a3 t238 t239 _ A90.out).mono ?_); rintro e w102 ⟨rfl, hb⟩; have n0_ := Aside0.mk (below_step (by repeat (first | (with_reducible first | exact HB.out | apply below_alloc | apply pw_below_drewN | apply below_drew1) | exact HB.out)) hb); clear HB; have HB := n0_; clear n0_; (try clear hb); (try clear hb2); (try clear hk); (try clear hi)) | (go_at_call 52; (with_reducible refine (spec_IsSmooth.calls kj36 a2 a3 t240 t241 _ A91.out).mono ?_); rintro e w103 ⟨rfl, hb⟩; have n0_ := Aside0.mk (below_step (by repeat (first | (with_reducible first | exact HB.out | apply below_alloc | apply pw_below_drewN | apply below_drew1) | exact HB.out)) hb); clear HB; have HB := n0_; clear n0_; (try clear hb); (try clear hb2); (try clear hk); (try clear hi)) | (go_at_call 32; (with_reducible refine (impl_FactorsOf.calls kj36 t234 t242 true _ A97.out).mono ?_); rintro e w104 ⟨v244, rfl, ho0, hb⟩; have n0_ := Aside0.mk (Kd.S_lower ho0 (below_size (by repeat (first | (with_reducible first | exact HB.out | apply below_alloc | apply pw_below_drewN | apply below_drew1) | exact HB.out)))); have n1_ := Aside0.mk (below_step (by repeat (first | (with_reducible first | exact HB.out | apply below_alloc | apply pw_below_drewN | apply below_drew1) | exact HB.out)) hb); clear HB; have HO245 := n0_; have HB := n1_; clear n0_ n1_; (try clear hb); (try clear hb2); (try clear hk); (try clear hi); (try clear ho0); obtain ⟨Ao105, co105, eo105⟩ := Kd.S_slice HO245.out; subst eo105) | (go_at_call 50; (with_reducible refine (laws_gLists.calls kj36 _ _ t242 _ _ l1 t246 _ ?side1 ?side2 ?side3 ?side4 A99.out).mono ?_); (case side1 => repeat (first | exact (Kd.S_reads' HO245.out).2.2 | (with_reducible refine Kd.C_alloc ?_ _) | (with_reducible refine Kd.C_drewN ?_ _) | (with_reducible refine Kd.C_drew ?_))); (case side2 => exact (Kd.S_reads' HO245.out).2.1); (case side3 => repeat (first | exact (Kd.C_below HR1.out HB.out) | (with_reducible refine Kd.C_alloc ?_ _) | (with_reducible refine Kd.C_drewN ?_ _) | (with_reducible refine Kd.C_drew ?_))); (case side4 => exact HC1.out); rintro e w' ⟨rfl, ⟨nd, rfl⟩⟩; (try first | exact ⟨rfl, _, World.drewN_drewN _ _ _⟩ | exact ⟨rfl, _, Eq.trans (World.drewN_drewN _ _ _) (congrArg (World.drewN _) (Nat.add_assoc _ _ _))⟩))); try go_wp2_with (first | (go_at_call 39; (with_reducible refine (impl_NumberOfFactors.calls kj36 _ _ l1 t234 true _ ?side1 ?side2 A88.out).mono ?_); (case side1 => repeat (first | exact (Kd.C_below HR1.out HB.out) | (with_reducible refine Kd.C_alloc ?_ _) | (with_reducible refine Kd.C_drewN ?_ _) | (with_reducible refine Kd.C_drew ?_))); (case side2 => exact HC1.out); rintro e w100 ⟨rfl, hb⟩; have n0_ := Aside0.mk (below_step (by repeat (first | (with_reducible first | exact HB.out | apply below_alloc | apply pw_below_drewN | apply below_drew1) | exact HB.out)) hb); clear HB; have HB := n0_; clear n0_; (try clear hb); (try clear hb2); (try clear hk); (try clear hi)) | (go_at_call 37; (with_reducible refine (spec_NumberOfFactors.calls kj36 _ _ l1 t236 t237 _ ?side1 ?side2 A89.out).mono ?_); (case side1 => repeat (first | exact (Kd.C_below HR1.out HB.out) | (with_reducible refine Kd.C_alloc ?_ _) | (with_reducible refine Kd.C_drewN ?_ _) | (with_reducible refine Kd.C_drew ?_))); (case side2 => exact HC1.out); rintro e w101 ⟨rfl, hb⟩; have n0_ := Aside0.mk (below_step (by repeat (first | (with_reducible first | exact HB.out | apply below_alloc | apply pw_below_drewN | apply below_drew1) | exact HB.out)) hb); clear HB; have HB := n0_; clear n0_; (try clear hb); (try clear hb2); (try clear hk); (try clear hi)) | (go_at_call 51; (with_reducible refine (impl_IsSmooth.calls kj36 a2 a3 t238 t239 _ A90.out).mono ?_); rintro e w102 ⟨rfl, hb⟩; have n0_ := Aside0.mk (below_step (by repeat (first | (with_reducible first | exact HB.out | apply below_alloc | apply pw_below_drewN | apply below_drew1) | exact HB.out)) hb); clear HB; have HB := n0_; clear n0_; (try clear hb); (try clear hb2); (try clear hk); (try clear hi)) | (go_at_call 52; (with_reducible refine (spec_IsSmooth.calls kj36 a2 a3 t240 t241 _ A91.out).mono ?_); rintro e w103 ⟨rfl, hb⟩; have n0_ := Aside0.mk (below_step (by repeat (first | (with_reducible first | exact HB.out | apply below_alloc | apply pw_below_drewN | apply below_drew1) | exact HB.out)) hb); clear HB; have HB := n0_; clear n0_; (try clear hb); (try clear hb2); (try clear hk); (try clear hi)) | (go_at_call 32; (with_reducible refine (impl_FactorsOf.calls kj36 t234 t242 true _ A97.out).mono ?_); rintro e w104 ⟨v244, rfl, ho0, hb⟩; have n0_ := Aside0.mk (Kd.S_lower ho0 (below_size (by repeat (first | (with_reducible first | exact HB.out | apply below_alloc | apply pw_below_drewN | apply below_drew1) | exact HB.out)))); have n1_ := Aside0.mk (below_step (by repeat (first | (with_reducible first | exact HB.out | apply below_alloc | apply pw_below_drewN | apply below_drew1) | exact HB.out)) hb); clear HB; have HO245 := n0_; have HB := n1_; clear n0_ n1_; (try clear hb); (try clear hb2); (try clear hk); (try clear hi); (try clear ho0); obtain ⟨Ao105, co105, eo105⟩ := Kd.S_slice HO245.out; subst eo105) | (go_at_call 50; (with_reducible refine (laws_gLists.calls kj36 _ _ t242 _ _ l1 t246 _ ?side1 ?side2 ?side3 ?side4 A99.out).mono ?_); (case side1 => repeat (first | exact (Kd.S_reads' HO245.out).2.2 | (with_reducible refine Kd.C_alloc ?_ _) | (with_reducible refine Kd.C_drewN ?_ _) | (with_reducible refine Kd.C_drew ?_))); (case side2 => exact (Kd.S_reads' HO245.out).2.1); (case side3 => repeat (first | exact (Kd.C_below HR1.out HB.out) | (with_reducible refine Kd.C_alloc ?_ _) | (with_reducible refine Kd.C_drewN ?_ _) | (with_reducible refine Kd.C_drew ?_))); (case side4 => exact HC1.out); rintro e w' ⟨rfl, ⟨nd, rfl⟩⟩; (try first | exact ⟨rfl, _, World.drewN_drewN _ _ _⟩ | exact ⟨rfl, _, Eq.trans (World.drewN_drewN _ _ _) (congrArg (World.drewN _) (Nat.add_assoc _ _ _))⟩))))
        go_ret
        exact ⟨by first | rfl | (simp [errW_none, errW_some] <;> rfl) | (simp [*, errW_none, errW_some] <;> rfl), by repeat (first | (with_reducible first | exact HB.out | apply below_alloc | apply pw_below_drewN | apply below_drew1) | exact HB.out)⟩
       ·replace c96 := Bool.eq_false_iff.mpr c96
        subst c96
        have H1 : (some true) = some r := by rw [if_neg (show ¬ (false = true) by decide)] at H; exact H
        clear H
        have H := H1
        clear H1
        obtain rfl := Option.some.inj H
        as_aux_lemma =>
        go_wp2_with (first | (go_at_call 39; (with_reducible refine (impl_NumberOfFactors.calls kj36 _ _ l1 t234 false _ ?side1 ?side2 A88.out).mono ?_); (case side1 => repeat (first | exact (Kd.C_below HR1.out HB.out) | (with_reducible refine Kd.C_alloc ?_ _) | (with_reducible refine Kd.C_drewN ?_ _) | (with_reducible refine Kd.C_drew ?_))); (case side2 => exact HC1.out); rintro e w106 ⟨rfl, hb⟩; have n0_ := Aside0.mk (below_step (by repeat (first | (with_reducible first | exact HB.out | apply below_alloc | apply pw_below_drewN | apply below_drew1) | exact HB.out)) hb); clear HB; have HB := n0_; clear n0_; (try clear hb); (try clear hb2); (try clear hk); (try clear hi)))
        as_aux_lemma =>
        go_wp2_with (first | (go_at_call 37; (with_reducible refine (spec_NumberOfFactors.calls kj36 _ _ l1 t236 t237 _ ?side1 ?side2 A89.out).mono ?_); (case side1 => repeat (first | exact (Kd.C_below HR1.out HB.out) | (with_reducible refine Kd.C_alloc ?_ _) | (with_reducible refine Kd.C_drewN ?_ _) | (with_reducible refine Kd.C_drew ?_))); (case side2 => exact HC1.out); rintro e w107 ⟨rfl, hb⟩; have n0_ := Aside0.mk (below_step (by repeat (first | (with_reducible first | exact HB.out | apply below_alloc | apply pw_below_drewN | apply below_drew1) | exact HB.out)) hb); clear HB; have HB := n0_; clear n0_; (try clear hb); (try clear hb2); (try clear hk); (try clear hi)))
        as_aux_lemma =>
        go_wp2_with (first | (go_at_call 51; (with_reducible refine (impl_IsSmooth.calls kj36 a2 a3 t238 t239 _ A90.out).mono ?_); rintro e w108 ⟨rfl, hb⟩; have n0_ := Aside0.mk (below_step (by repeat (first | (with_reducible first | exact HB.out | apply below_alloc | apply pw_below_drewN | apply below_drew1) | exact HB.out)) hb); clear HB; have HB := n0_; clear n0_; (try clear hb); (try clear hb2); (try clear hk); (try clear hi)))
        as_aux_lemma =>
        go_wp2_with (first | (go_at_call 52; (with_reducible refine (spec_IsSmooth.calls kj36 a2 a3 t240 t241 _ A91.out).mono ?_); rintro e w109 ⟨rfl, hb⟩; have n0_ := Aside0.mk (below_step (by repeat (first | (with_reducible first | exact HB.out | apply below_alloc | apply pw_below_drewN | apply below_drew1) | exact HB.out)) hb); clear HB; have HB := n0_; clear n0_; (try clear hb); (try clear hb2); (try clear hk); (try clear hi)))
        repeat (go_quiet (first | (go_at_call 39; (with_reducible refine (impl_NumberOfFactors.calls kj36 _ _ l1 t234 false _ ?side1 ?side2 A88.out).mono ?_); (case side1 => repeat (first | exact (Kd.C_below HR1.out HB.out) | (with_reducible refine Kd.C_alloc ?_ _) | (with_reducible refine Kd.C_drewN ?_ _) | (with_reducible refine Kd.C_drew ?_))); (case side2 => exact HC1.out); rintro e w106 ⟨rfl, hb⟩; have n0_ := Aside0.mk (below_step (by repeat (first | (with_reducible first | exact HB.out | apply below_alloc | apply pw_below_drewN | apply below_drew1) | exact HB.out)) hb); clear HB; have HB := n0_; clear n0_; (try clear hb); (try clear hb2); (try clear hk); (try clear hi)) | (go_at_call 37; (with_reducible refine (spec_NumberOfFactors.calls kj36 _ _ l1 t236 t237 _ ?side1 ?side2 A89.out).mono ?_); (case side1 => repeat (first | exact (Kd.C_below HR1.out HB.out) | (with_reducible refine Kd.C_alloc ?_ _) | (with_reducible refine Kd.C_drewN ?_ _) | (with_reducible refine Kd.C_drew ?_))); (case side2 => exact HC1.out); rintro e w107 ⟨rfl, hb⟩; have n0_ := Aside0.mk (below_step (by repeat (first | (with_reducible first | exact HB.out | apply below_alloc | apply pw_below_drewN | apply below_drew1) | exact HB.out)) hb); clear HB; have HB := n0_; clear n0_; (try clear hb); (try clear hb2); (try clear hk); (try clear hi)) | (go_at_call 51; (with_reducible refine (impl_IsSmooth.calls kj36 a2 a3 t238 t239 _ A90.out).mono ?_); rintro e w108 ⟨rfl, hb⟩; have n0_ := Aside0.mk (below_step (by repeat (first | (with_reducible first | exact HB.out | apply below_alloc | apply pw_below_drewN | apply below_drew1) | exact HB.out)) hb); clear HB; have HB := n0_; clear n0_; (try clear hb); (try clear hb2); (try clear hk); (try clear hi)) | (go_at_call 52; (with_reducible refine (spec_IsSmooth.calls kj36 a2 a3 t240 t241 _ A91.out).mono ?_); rintro e w109 ⟨rfl, hb⟩; have n0_ := Aside0.mk (below_step (by repeat (first | (with_reducible first | exact HB.out | apply below_alloc | apply pw_below_drewN | apply below_drew1) | exact HB.out)) hb); clear HB; have HB := n0_; clear n0_; (try clear hb); (try clear hb2); (try clear hk); (try clear hi))); try go_wp2_with (first | (go_at_call 39; (with_reducible refine (impl_NumberOfFactors.calls kj36 _ _ l1 t234 false _ ?side1 ?side2 A88.out).mono ?_); (case side1 => repeat (first | exact (Kd.C_below HR1.out HB.out) | (with_reducible refine Kd.C_alloc ?_ _) | (with_reducible refine Kd.C_drewN ?_ _) | (with_reducible refine Kd.C_drew ?_))); (case side2 => exact HC1.out); rintro e w106 ⟨rfl, hb⟩; have n0_ := Aside0.mk (below_step (by repeat (first | (with_reducible first | exact HB.out | apply below_alloc | apply pw_below_drewN | apply below_drew1) | exact HB.out)) hb); clear HB; have HB := n0_; clear n0_; (try clear hb); (try clear hb2); (try clear hk); (try clear hi)) | (go_at_call 37; (with_reducible refine (spec_NumberOfFactors.calls kj36 _ _ l1 t236 t237 _ ?side1 ?side2 A89.out).mono ?_); (case side1 => repeat (first | exact (Kd.C_below HR1.out HB.out) | (with_reducible refine Kd.C_alloc ?_ _) | (with_reducible refine Kd.C_drewN ?_ _) | (with_reducible refine Kd.C_drew ?_))); (case side2 => exact HC1.out); rintro e w107 ⟨rfl, hb⟩; have n0_ := Aside0.mk (below_step (by repeat (first | (with_reducible first | exact HB.out | apply below_alloc | apply pw_below_drewN | apply below_drew1) | exact HB.out)) hb); clear HB; have HB := n0_; clear n0_; (try clear hb); (try clear hb2); (try clear hk); (try clear hi)) | (go_at_call 51; (with_reducible refine (impl_IsSmooth.calls kj36 a2 a3 t238 t239 _ A90.out).mono ?_); rintro e w108 ⟨rfl, hb⟩; have n0_ := Aside0.mk (below_step (by repeat (first | (with_reducible first | exact HB.out | apply below_alloc | apply pw_below_drewN | apply below_drew1) | exact HB.out)) hb); clear HB; have HB := n0_; clear n0_; (try clear hb); (try clear hb2); (try clear hk); (try clear hi)) | (go_at_call 52; (with_reducible refine (spec_IsSmooth.calls kj36 a2 a3 t240 t241 _ A91.out).mono ?_); rintro e w109 ⟨rfl, hb⟩; have n0_ := Aside0.mk (below_step (by repeat (first | (with_reducible first | exact HB.out | apply below_alloc | apply pw_below_drewN | apply below_drew1) | exact HB.out)) hb); clear HB; have HB := n0_; clear n0_; (try clear hb); (try clear hb2); (try clear hk); (try clear hi))))
        go_ret
        exact ⟨by first | rfl | (simp [errW_none, errW_some] <;> rfl) | (simp [*, errW_none, errW_some] <;> rfl), by repeat (first | (with_reducible first | exact HB.out | apply below_alloc | apply pw_below_drewN | apply below_drew1) | exact HB.out)⟩
      ·as_aux_lemma =>
       rw [if_neg c93] at H
       exact absurd H (by simp)

/-- THE ONE PURE STATEMENT of laws_FnFactorsToldOfAll: yours. -/
def laws_FnFactorsToldOfAll.Pure : Prop := ∀ (a0 : Int) (l1 : List (List Int)) (a2 : Int) (a3 : Int), (Lit.int .i64 a0).wf = true → l1.length ≤ maxLen → l1.length * 24 ≤ 140737488351232 → (∀ x ∈ l1, x.length ≤ maxLen ∧ ∀ n ∈ x, (Lit.int .i64 n).wf = true) → (Lit.int .i64 a2).wf = true → (Lit.int .i64 a3).wf = true → ∃ k, laws_FnFactorsToldOfAll.f k a0 l1 a2 a3 = some true
theorem laws_FnFactorsToldOfAll.walk (P : laws_FnFactorsToldOfAll.Pure) (a0 : Int) (a1 : Option Addr) (len1 cap1 : Nat) (l1 : List (List Int)) (a2 : Int) (a3 : Int) (w : World) (w0 : (Lit.int .i64 a0).wf = true) (w1 : l1.length = len1 ∧ len1 ≤ cap1 ∧ Kd.C (Kd.slice 3 (Kd.int .i64)) w a1 len1 l1 ∧ (∀ x ∈ l1, x.length ≤ maxLen ∧ ∀ n ∈ x, (Lit.int .i64 n).wf = true)) (y1 : len1 * 24 ≤ 140737488351232) (w2 : (Lit.int .i64 a2).wf = true) (w3 : (Lit.int .i64 a3).wf = true) :
  Calls Try.prog 12 #[.int .i64 a0, .slice a1 len1 cap1, .int .i64 a2, .int .i64 a3] w fun e w' => e = .returned (.bool true) ∧ Below w.heap.size w w' := by
 obtain ⟨rfl, hc1, hr1, hw1⟩ := w1
 have hm1 : l1.length ≤ maxLen := by unfold maxLen; exact Kd.C_max hr1
 obtain ⟨k, h⟩ := P a0 l1 a2 a3 w0 hm1 y1 hw1 w2 w3
 refine (laws_FnFactorsToldOfAll.calls k a0 _ _ l1 a2 a3 true w hr1 hc1 h).mono ?_
 rintro e w' ⟨rfl, hd⟩
 exact ⟨rfl, hd⟩

end Go.Proofs.Ytgoldeagghadhaa.P
