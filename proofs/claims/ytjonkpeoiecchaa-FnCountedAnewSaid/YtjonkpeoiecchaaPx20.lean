-- Printed for this claim by a program of this session, out of the translation. Lean checks it.
import Derived.Test.YtjonkpeoiecchaaPx0
import Derived.Test.YtjonkpeoiecchaaPx1
import Derived.Test.YtjonkpeoiecchaaPx3
import Derived.Test.YtjonkpeoiecchaaPx5
import Derived.Test.YtjonkpeoiecchaaPx8
import Derived.Test.YtjonkpeoiecchaaPx9
import Derived.Test.YtjonkpeoiecchaaPx10
import Derived.Test.YtjonkpeoiecchaaPx11
import Derived.Test.YtjonkpeoiecchaaPx12
import Derived.Test.YtjonkpeoiecchaaPx13
import Derived.Test.YtjonkpeoiecchaaPx14
import Derived.Test.YtjonkpeoiecchaaPx15
import Derived.Test.YtjonkpeoiecchaaPx16
import Derived.Test.YtjonkpeoiecchaaPx17
import Derived.Test.YtjonkpeoiecchaaPx18
import Derived.Test.YtjonkpeoiecchaaPx19
namespace Go.Proofs.Ytjonkpeoiecchaa.P
open Go.RowKit Go.Proofs.YtjonkpeoiecchaaW.PrintWords Go.Proofs.YtjonkpeoiecchaaW.PrintLast Go.Proofs.YtjonkpeoiecchaaW.PrintMore
attribute [local go_sem] max2_int min2_int max_two min_two max_three min_three max_four min_four   -- for this text's walks alone
set_option linter.unusedVariables false
set_option linter.unusedSimpArgs false

/-! ### laws_FnCountedAnew: function 7 -/
mutual
def laws_FnCountedAnew.j0 : Nat → List Int → List Int → Int → List Int → Bool → Int → Bool → Option (Bool)
  | 0, _, _, _, _, _, _, _ => none
  | k + 1, x1, x5, x6, x7, x8, x11, x113 => if x113 = true then (none) else (if x8 = true then (if (x7.length : Int) = x11 then ((laws_tRises.f k x7 1 x6).bind fun t313 => (if t313 = true then (laws_FnCountedAnew.l0 k x1 x5 x6 x7 x11 1) else (none))) else (none)) else (laws_FnCountedAnew.j3 k x1))
def laws_FnCountedAnew.j3 : Nat → List Int → Option (Bool)
  | 0, _ => none
  | k + 1, x1 => (spec_DrawStepOfFall.f k x1).bind fun bt331 => ((impl_StepOfFall.f k bt331.1 bt331.2).bind fun bt335 => ((spec_StepOfFall.f k bt331.1 bt331.2).bind fun bt337 => ((impl_RankBehind.f k bt331.1 bt331.2).bind fun bt339 => ((spec_RankBehind.f k bt331.1 bt331.2).bind fun bt341 => ((spec_DrawNumberOfRank.f k x1).bind fun bt343 => ((impl_NumberOfRank.f k bt343.1 bt343.2).bind fun bt347 => ((spec_NumberOfRank.f k bt343.1 bt343.2).bind fun bt349 => (if (bt335.2 != bt337.2) = true then (none) else (if bt335.1 = bt337.1 then (if (bt339.2 != bt341.2) = true then (none) else (if bt339.1 = bt341.1 then (if (bt347.2 != bt349.2) = true then (none) else (if bt347.1 = bt349.1 then (if bt347.2 = true then (if bt347.1 ≤ 10000 then ((impl_RankBehind.f k bt343.1 bt347.1).bind fun bt351 => (if bt351.2 = true then (some (bt351.1 == bt343.2)) else (none))) else (some true)) else (some true)) else (none))) else (none))) else (none))))))))))
def laws_FnCountedAnew.l0 : Nat → List Int → List Int → Int → List Int → Int → Int → Option (Bool)
  | 0, _, _, _, _, _, _ => none
  | k + 1, x1, x5, x6, x7, x11, x15 => if x15 ≤ x6 then ((impl_StepOfFall.f k x5 x15).bind fun bt314 => ((impl_RankBehind.f k x5 x15).bind fun bt316 => (if (bt314.2 == bt316.2) = true then (none) else ((laws_tHas.f k x7 x15).bind fun t318 => (if (bt316.2 != t318) = true then (none) else (if bt314.2 = true then (if bt314.1 < 0 then (none) else (if bt314.1 ≥ (x5.length : Int) then (none) else (if bt316.2 = true then (none) else (laws_FnCountedAnew.j2 k x1 x5 x6 x7 x11 x15 bt316.1 bt316.2 false)))) else (if bt316.2 = true then (if 0 ≤ bt316.1 then (if bt316.1 < (x7.length : Int) then (laws_FnCountedAnew.j2 k x1 x5 x6 x7 x11 x15 bt316.1 bt316.2 ((rd x7 bt316.1) != x15)) else (none)) else (none)) else (none)))))))) else (if (x5.length : Int) > 0 then (if 0 ≤ (wrap64 ((x5.length : Int) - 1)) then (if (wrap64 ((x5.length : Int) - 1)) ≤ (x5.length : Int) then ((impl_LeftByCounting.f k (x5.take ((wrap64 ((x5.length : Int) - 1)) : Int).toNat) x6).bind fun bt326 => (if (wrap64 ((x5.length : Int) - 1)) < (x5.length : Int) then (if bt326.2 = true then (if (rd x5 (wrap64 ((x5.length : Int) - 1))) = 0 then (none) else (if x11 = (wrap64 ((bt326.1.length : Int) - (wrap64 ((bt326.1.length : Int) / (rd x5 (wrap64 ((x5.length : Int) - 1))))))) then (laws_FnCountedAnew.j3 k x1) else (none))) else (none)) else (none))) else (none)) else (none)) else (laws_FnCountedAnew.j3 k x1))
def laws_FnCountedAnew.j2 : Nat → List Int → List Int → Int → List Int → Int → Int → Int → Bool → Bool → Option (Bool)
  | 0, _, _, _, _, _, _, _, _, _ => none
  | k + 1, x1, x5, x6, x7, x11, x15, x18, x19, x175 => if x175 = true then (none) else (if x19 = true then ((impl_NumberOfRank.f k x5 x18).bind fun bt320 => (if bt320.2 = true then (if bt320.1 = x15 then (laws_FnCountedAnew.l0 k x1 x5 x6 x7 x11 (wrap64 (x15 + 1))) else (none)) else (none))) else (laws_FnCountedAnew.l0 k x1 x5 x6 x7 x11 (wrap64 (x15 + 1))))
end
def laws_FnCountedAnew.f (k : Nat) (l0 : List Int) (l1 : List Int) : Option (Bool) := (laws_big.f l0 l1).bind fun t290 => (if t290 = true then (some true) else ((spec_DrawLeftByCounting.f k l0).bind fun bt291 => ((impl_LeftByCounting.f k bt291.1 bt291.2).bind fun bt295 => ((spec_LeftByCounting.f k bt291.1 bt291.2).bind fun bt299 => ((impl_CountByCounting.f k bt291.1 bt291.2).bind fun bt303 => ((spec_CountByCounting.f k bt291.1 bt291.2).bind fun bt305 => (if (bt295.2 != bt299.2) = true then (none) else ((laws_tSame.f k bt295.1 bt299.1).bind fun t307 => (if t307 = true then (if (bt303.2 != bt305.2) = true then (none) else (if bt303.1 = bt305.1 then (if (bt303.2 != bt295.2) = true then (none) else (if bt295.2 = true then ((impl_IsStepList.f bt291.1).bind fun t308 => (if t308 = true then ((impl_IsStepList.f bt291.1).bind fun t309 => ((spec_IsStepList.f k bt291.1).bind fun t310 => (laws_FnCountedAnew.j0 k l1 bt291.1 bt291.2 bt295.1 bt295.2 bt303.1 (t309 != t310)))) else (none))) else ((impl_IsStepList.f bt291.1).bind fun t311 => ((spec_IsStepList.f k bt291.1).bind fun t312 => (laws_FnCountedAnew.j0 k l1 bt291.1 bt291.2 bt295.1 bt295.2 bt303.1 (t311 != t312)))))) else (none))) else (none))))))))))
theorem laws_FnCountedAnew.mono_l : ∀ k, (∀ y0 y1 y2 y3 y4 y5 y6, LeO (laws_FnCountedAnew.j0 k y0 y1 y2 y3 y4 y5 y6) (laws_FnCountedAnew.j0 (k + 1) y0 y1 y2 y3 y4 y5 y6)) ∧ (∀ y0, LeO (laws_FnCountedAnew.j3 k y0) (laws_FnCountedAnew.j3 (k + 1) y0)) ∧ (∀ y0 y1 y2 y3 y4 y5, LeO (laws_FnCountedAnew.l0 k y0 y1 y2 y3 y4 y5) (laws_FnCountedAnew.l0 (k + 1) y0 y1 y2 y3 y4 y5)) ∧ (∀ y0 y1 y2 y3 y4 y5 y6 y7 y8, LeO (laws_FnCountedAnew.j2 k y0 y1 y2 y3 y4 y5 y6 y7 y8) (laws_FnCountedAnew.j2 (k + 1) y0 y1 y2 y3 y4 y5 y6 y7 y8))
  | 0 => ⟨fun _ _ _ _ _ _ _ r h => by simp [laws_FnCountedAnew.j0] at h, fun _ r h => by simp [laws_FnCountedAnew.j3] at h, fun _ _ _ _ _ _ r h => by simp [laws_FnCountedAnew.l0] at h, fun _ _ _ _ _ _ _ _ _ r h => by simp [laws_FnCountedAnew.j2] at h⟩
  | k + 1 => by
    obtain ⟨ih0, ih1, ih2, ih3⟩ := laws_FnCountedAnew.mono_l k
    refine ⟨?_, ?_, ?_, ?_⟩
    · intro y0 y1 y2 y3 y4 y5 y6
      unfold laws_FnCountedAnew.j0
      repeat' first
      | (with_reducible exact ih0 _ _ _ _ _ _ _)
      | (with_reducible exact ih1 _)
      | (with_reducible exact ih2 _ _ _ _ _ _)
      | (with_reducible exact ih3 _ _ _ _ _ _ _ _ _)
      | (with_reducible exact impl_CountByCounting.mono _ _ _)
      | (with_reducible exact impl_LeftByCounting.mono _ _ _)
      | (with_reducible exact impl_NumberOfRank.mono _ _ _)
      | (with_reducible exact impl_RankBehind.mono _ _ _)
      | (with_reducible exact impl_StepOfFall.mono _ _ _)
      | (with_reducible exact laws_tHas.mono _ _ _)
      | (with_reducible exact laws_tRises.mono _ _ _ _)
      | (with_reducible exact laws_tSame.mono _ _ _)
      | (with_reducible exact spec_CountByCounting.mono _ _ _)
      | (with_reducible exact spec_DrawLeftByCounting.mono _ _)
      | (with_reducible exact spec_DrawNumberOfRank.mono _ _)
      | (with_reducible exact spec_DrawStepOfFall.mono _ _)
      | (with_reducible exact spec_IsStepList.mono _ _)
      | (with_reducible exact spec_LeftByCounting.mono _ _ _)
      | (with_reducible exact spec_NumberOfRank.mono _ _ _)
      | (with_reducible exact spec_RankBehind.mono _ _ _)
      | (with_reducible exact spec_StepOfFall.mono _ _ _)
      | (with_reducible exact LeO.refl _)
      | (with_reducible exact LeO.none _)
      | (with_reducible refine LeO.ite ?_ ?_)
      | (with_reducible refine LeO.bind ?_ (fun _ => ?_))
      | exact ih0 _ _ _ _ _ _ _
      | exact ih1 _
      | exact ih2 _ _ _ _ _ _
      | exact ih3 _ _ _ _ _ _ _ _ _
      | exact impl_CountByCounting.mono _ _ _
      | exact impl_LeftByCounting.mono _ _ _
      | exact impl_NumberOfRank.mono _ _ _
      | exact impl_RankBehind.mono _ _ _
      | exact impl_StepOfFall.mono _ _ _
      | exact laws_tHas.mono _ _ _
      | exact laws_tRises.mono _ _ _ _
      | exact laws_tSame.mono _ _ _
      | exact spec_CountByCounting.mono _ _ _
      | exact spec_DrawLeftByCounting.mono _ _
      | exact spec_DrawNumberOfRank.mono _ _
      | exact spec_DrawStepOfFall.mono _ _
      | exact spec_IsStepList.mono _ _
      | exact spec_LeftByCounting.mono _ _ _
      | exact spec_NumberOfRank.mono _ _ _
      | exact spec_RankBehind.mono _ _ _
      | exact spec_StepOfFall.mono _ _ _
      | exact LeO.none _
      | refine LeO.ite ?_ ?_
      | refine LeO.bind ?_ (fun _ => ?_)
    · intro y0
      unfold laws_FnCountedAnew.j3
      repeat' first
      | (with_reducible exact ih0 _ _ _ _ _ _ _)
      | (with_reducible exact ih1 _)
      | (with_reducible exact ih2 _ _ _ _ _ _)
      | (with_reducible exact ih3 _ _ _ _ _ _ _ _ _)
      | (with_reducible exact impl_CountByCounting.mono _ _ _)
      | (with_reducible exact impl_LeftByCounting.mono _ _ _)
      | (with_reducible exact impl_NumberOfRank.mono _ _ _)
      | (with_reducible exact impl_RankBehind.mono _ _ _)
      | (with_reducible exact impl_StepOfFall.mono _ _ _)
      | (with_reducible exact laws_tHas.mono _ _ _)
      | (with_reducible exact laws_tRises.mono _ _ _ _)
      | (with_reducible exact laws_tSame.mono _ _ _)
      | (with_reducible exact spec_CountByCounting.mono _ _ _)
      | (with_reducible exact spec_DrawLeftByCounting.mono _ _)
      | (with_reducible exact spec_DrawNumberOfRank.mono _ _)
      | (with_reducible exact spec_DrawStepOfFall.mono _ _)
      | (with_reducible exact spec_IsStepList.mono _ _)
      | (with_reducible exact spec_LeftByCounting.mono _ _ _)
      | (with_reducible exact spec_NumberOfRank.mono _ _ _)
      | (with_reducible exact spec_RankBehind.mono _ _ _)
      | (with_reducible exact spec_StepOfFall.mono _ _ _)
      | (with_reducible exact LeO.refl _)
      | (with_reducible exact LeO.none _)
      | (with_reducible refine LeO.ite ?_ ?_)
      | (with_reducible refine LeO.bind ?_ (fun _ => ?_))
      | exact ih0 _ _ _ _ _ _ _
      | exact ih1 _
      | exact ih2 _ _ _ _ _ _
      | exact ih3 _ _ _ _ _ _ _ _ _
      | exact impl_CountByCounting.mono _ _ _
      | exact impl_LeftByCounting.mono _ _ _
      | exact impl_NumberOfRank.mono _ _ _
      | exact impl_RankBehind.mono _ _ _
      | exact impl_StepOfFall.mono _ _ _
      | exact laws_tHas.mono _ _ _
      | exact laws_tRises.mono _ _ _ _
      | exact laws_tSame.mono _ _ _
      | exact spec_CountByCounting.mono _ _ _
      | exact spec_DrawLeftByCounting.mono _ _
      | exact spec_DrawNumberOfRank.mono _ _
      | exact spec_DrawStepOfFall.mono _ _
      | exact spec_IsStepList.mono _ _
      | exact spec_LeftByCounting.mono _ _ _
      | exact spec_NumberOfRank.mono _ _ _
      | exact spec_RankBehind.mono _ _ _
      | exact spec_StepOfFall.mono _ _ _
      | exact LeO.none _
      | refine LeO.ite ?_ ?_
      | refine LeO.bind ?_ (fun _ => ?_)
    · intro y0 y1 y2 y3 y4 y5
      unfold laws_FnCountedAnew.l0
      repeat' first
      | (with_reducible exact ih0 _ _ _ _ _ _ _)
      | (with_reducible exact ih1 _)
      | (with_reducible exact ih2 _ _ _ _ _ _)
      | (with_reducible exact ih3 _ _ _ _ _ _ _ _ _)
      | (with_reducible exact impl_CountByCounting.mono _ _ _)
      | (with_reducible exact impl_LeftByCounting.mono _ _ _)
      | (with_reducible exact impl_NumberOfRank.mono _ _ _)
      | (with_reducible exact impl_RankBehind.mono _ _ _)
      | (with_reducible exact impl_StepOfFall.mono _ _ _)
      | (with_reducible exact laws_tHas.mono _ _ _)
      | (with_reducible exact laws_tRises.mono _ _ _ _)
      | (with_reducible exact laws_tSame.mono _ _ _)
      | (with_reducible exact spec_CountByCounting.mono _ _ _)
      | (with_reducible exact spec_DrawLeftByCounting.mono _ _)
      | (with_reducible exact spec_DrawNumberOfRank.mono _ _)
      | (with_reducible exact spec_DrawStepOfFall.mono _ _)
      | (with_reducible exact spec_IsStepList.mono _ _)
      | (with_reducible exact spec_LeftByCounting.mono _ _ _)
      | (with_reducible exact spec_NumberOfRank.mono _ _ _)
      | (with_reducible exact spec_RankBehind.mono _ _ _)
      | (with_reducible exact spec_StepOfFall.mono _ _ _)
      | (with_reducible exact LeO.refl _)
      | (with_reducible exact LeO.none _)
      | (with_reducible refine LeO.ite ?_ ?_)
      | (with_reducible refine LeO.bind ?_ (fun _ => ?_))
      | exact ih0 _ _ _ _ _ _ _
      | exact ih1 _
      | exact ih2 _ _ _ _ _ _
      | exact ih3 _ _ _ _ _ _ _ _ _
      | exact impl_CountByCounting.mono _ _ _
      | exact impl_LeftByCounting.mono _ _ _
      | exact impl_NumberOfRank.mono _ _ _
      | exact impl_RankBehind.mono _ _ _
      | exact impl_StepOfFall.mono _ _ _
      | exact laws_tHas.mono _ _ _
      | exact laws_tRises.mono _ _ _ _
      | exact laws_tSame.mono _ _ _
      | exact spec_CountByCounting.mono _ _ _
      | exact spec_DrawLeftByCounting.mono _ _
      | exact spec_DrawNumberOfRank.mono _ _
      | exact spec_DrawStepOfFall.mono _ _
      | exact spec_IsStepList.mono _ _
      | exact spec_LeftByCounting.mono _ _ _
      | exact spec_NumberOfRank.mono _ _ _
      | exact spec_RankBehind.mono _ _ _
      | exact spec_StepOfFall.mono _ _ _
      | exact LeO.none _
      | refine LeO.ite ?_ ?_
      | refine LeO.bind ?_ (fun _ => ?_)
    · intro y0 y1 y2 y3 y4 y5 y6 y7 y8
      unfold laws_FnCountedAnew.j2
      repeat' first
      | (with_reducible exact ih0 _ _ _ _ _ _ _)
      | (with_reducible exact ih1 _)
      | (with_reducible exact ih2 _ _ _ _ _ _)
      | (with_reducible exact ih3 _ _ _ _ _ _ _ _ _)
      | (with_reducible exact impl_CountByCounting.mono _ _ _)
      | (with_reducible exact impl_LeftByCounting.mono _ _ _)
      | (with_reducible exact impl_NumberOfRank.mono _ _ _)
      | (with_reducible exact impl_RankBehind.mono _ _ _)
      | (with_reducible exact impl_StepOfFall.mono _ _ _)
      | (with_reducible exact laws_tHas.mono _ _ _)
      | (with_reducible exact laws_tRises.mono _ _ _ _)
      | (with_reducible exact laws_tSame.mono _ _ _)
      | (with_reducible exact spec_CountByCounting.mono _ _ _)
      | (with_reducible exact spec_DrawLeftByCounting.mono _ _)
      | (with_reducible exact spec_DrawNumberOfRank.mono _ _)
      | (with_reducible exact spec_DrawStepOfFall.mono _ _)
      | (with_reducible exact spec_IsStepList.mono _ _)
      | (with_reducible exact spec_LeftByCounting.mono _ _ _)
      | (with_reducible exact spec_NumberOfRank.mono _ _ _)
      | (with_reducible exact spec_RankBehind.mono _ _ _)
      | (with_reducible exact spec_StepOfFall.mono _ _ _)
      | (with_reducible exact LeO.refl _)
      | (with_reducible exact LeO.none _)
      | (with_reducible refine LeO.ite ?_ ?_)
      | (with_reducible refine LeO.bind ?_ (fun _ => ?_))
      | exact ih0 _ _ _ _ _ _ _
      | exact ih1 _
      | exact ih2 _ _ _ _ _ _
      | exact ih3 _ _ _ _ _ _ _ _ _
      | exact impl_CountByCounting.mono _ _ _
      | exact impl_LeftByCounting.mono _ _ _
      | exact impl_NumberOfRank.mono _ _ _
      | exact impl_RankBehind.mono _ _ _
      | exact impl_StepOfFall.mono _ _ _
      | exact laws_tHas.mono _ _ _
      | exact laws_tRises.mono _ _ _ _
      | exact laws_tSame.mono _ _ _
      | exact spec_CountByCounting.mono _ _ _
      | exact spec_DrawLeftByCounting.mono _ _
      | exact spec_DrawNumberOfRank.mono _ _
      | exact spec_DrawStepOfFall.mono _ _
      | exact spec_IsStepList.mono _ _
      | exact spec_LeftByCounting.mono _ _ _
      | exact spec_NumberOfRank.mono _ _ _
      | exact spec_RankBehind.mono _ _ _
      | exact spec_StepOfFall.mono _ _ _
      | exact LeO.none _
      | refine LeO.ite ?_ ?_
      | refine LeO.bind ?_ (fun _ => ?_)
theorem laws_FnCountedAnew.mono : ∀ a0 a1 k, LeO (laws_FnCountedAnew.f k a0 a1) (laws_FnCountedAnew.f (k + 1) a0 a1) := by
  intro a0 a1 k
  obtain ⟨ih0, ih1, ih2, ih3⟩ := laws_FnCountedAnew.mono_l k
  unfold laws_FnCountedAnew.f
  repeat' first
      | (with_reducible exact ih0 _ _ _ _ _ _ _)
      | (with_reducible exact ih1 _)
      | (with_reducible exact ih2 _ _ _ _ _ _)
      | (with_reducible exact ih3 _ _ _ _ _ _ _ _ _)
      | (with_reducible exact impl_CountByCounting.mono _ _ _)
      | (with_reducible exact impl_LeftByCounting.mono _ _ _)
      | (with_reducible exact impl_NumberOfRank.mono _ _ _)
      | (with_reducible exact impl_RankBehind.mono _ _ _)
      | (with_reducible exact impl_StepOfFall.mono _ _ _)
      | (with_reducible exact laws_tHas.mono _ _ _)
      | (with_reducible exact laws_tRises.mono _ _ _ _)
      | (with_reducible exact laws_tSame.mono _ _ _)
      | (with_reducible exact spec_CountByCounting.mono _ _ _)
      | (with_reducible exact spec_DrawLeftByCounting.mono _ _)
      | (with_reducible exact spec_DrawNumberOfRank.mono _ _)
      | (with_reducible exact spec_DrawStepOfFall.mono _ _)
      | (with_reducible exact spec_IsStepList.mono _ _)
      | (with_reducible exact spec_LeftByCounting.mono _ _ _)
      | (with_reducible exact spec_NumberOfRank.mono _ _ _)
      | (with_reducible exact spec_RankBehind.mono _ _ _)
      | (with_reducible exact spec_StepOfFall.mono _ _ _)
      | (with_reducible exact LeO.refl _)
      | (with_reducible exact LeO.none _)
      | (with_reducible refine LeO.ite ?_ ?_)
      | (with_reducible refine LeO.bind ?_ (fun _ => ?_))
      | exact ih0 _ _ _ _ _ _ _
      | exact ih1 _
      | exact ih2 _ _ _ _ _ _
      | exact ih3 _ _ _ _ _ _ _ _ _
      | exact impl_CountByCounting.mono _ _ _
      | exact impl_LeftByCounting.mono _ _ _
      | exact impl_NumberOfRank.mono _ _ _
      | exact impl_RankBehind.mono _ _ _
      | exact impl_StepOfFall.mono _ _ _
      | exact laws_tHas.mono _ _ _
      | exact laws_tRises.mono _ _ _ _
      | exact laws_tSame.mono _ _ _
      | exact spec_CountByCounting.mono _ _ _
      | exact spec_DrawLeftByCounting.mono _ _
      | exact spec_DrawNumberOfRank.mono _ _
      | exact spec_DrawStepOfFall.mono _ _
      | exact spec_IsStepList.mono _ _
      | exact spec_LeftByCounting.mono _ _ _
      | exact spec_NumberOfRank.mono _ _ _
      | exact spec_RankBehind.mono _ _ _
      | exact spec_StepOfFall.mono _ _ _
      | exact LeO.none _
      | refine LeO.ite ?_ ?_
      | refine LeO.bind ?_ (fun _ => ?_)
set_option maxHeartbeats 8000000 in
set_option maxRecDepth 100000 in
theorem laws_FnCountedAnew.calls (k : Nat) (A0 : Option Addr) (c0 : Nat) (l0 : List Int) (A1 : Option Addr) (c1 : Nat) (l1 : List Int) (r : Bool) (w : World) (hr0 : Kd.C (Kd.int .u8) w A0 l0.length l0) (hc0 : l0.length ≤ c0) (hr1 : Kd.C (Kd.int .u8) w A1 l1.length l1) (hc1 : l1.length ≤ c1) (h : laws_FnCountedAnew.f k l0 l1 = some r) :
    Calls Try.prog 7 #[.slice A0 l0.length c0, .slice A1 l1.length c1] w fun e w' => e = .returned (.bool r) ∧ Below w.heap.size w w' := by
  have HR0 := Aside0.mk hr0
  have HC0 := Aside0.mk hc0
  clear hr0 hc0
  have HR1 := Aside0.mk hr1
  have HC1 := Aside0.mk hc1
  clear hr1 hc1
  have HB := Aside0.mk (Below.refl w.heap.size w)
  have H : ((laws_big.f l0 l1).bind fun t290 => (if t290 = true then (some true) else ((spec_DrawLeftByCounting.f k l0).bind fun bt291 => ((impl_LeftByCounting.f k bt291.1 bt291.2).bind fun bt295 => ((spec_LeftByCounting.f k bt291.1 bt291.2).bind fun bt299 => ((impl_CountByCounting.f k bt291.1 bt291.2).bind fun bt303 => ((spec_CountByCounting.f k bt291.1 bt291.2).bind fun bt305 => (if (bt295.2 != bt299.2) = true then (none) else ((laws_tSame.f k bt295.1 bt299.1).bind fun t307 => (if t307 = true then (if (bt303.2 != bt305.2) = true then (none) else (if bt303.1 = bt305.1 then (if (bt303.2 != bt295.2) = true then (none) else (if bt295.2 = true then ((impl_IsStepList.f bt291.1).bind fun t308 => (if t308 = true then ((impl_IsStepList.f bt291.1).bind fun t309 => ((spec_IsStepList.f k bt291.1).bind fun t310 => (laws_FnCountedAnew.j0 k l1 bt291.1 bt291.2 bt295.1 bt295.2 bt303.1 (t309 != t310)))) else (none))) else ((impl_IsStepList.f bt291.1).bind fun t311 => ((spec_IsStepList.f k bt291.1).bind fun t312 => (laws_FnCountedAnew.j0 k l1 bt291.1 bt291.2 bt295.1 bt295.2 bt303.1 (t311 != t312)))))) else (none))) else (none))))))))))) = some r := h
  clear h
  replace H := Option.bind_eq_some_iff.mp H
  obtain ⟨t290, A30, H⟩ := H
  replace H : (if t290 = true then (some true) else ((spec_DrawLeftByCounting.f k l0).bind fun bt291 => ((impl_LeftByCounting.f k bt291.1 bt291.2).bind fun bt295 => ((spec_LeftByCounting.f k bt291.1 bt291.2).bind fun bt299 => ((impl_CountByCounting.f k bt291.1 bt291.2).bind fun bt303 => ((spec_CountByCounting.f k bt291.1 bt291.2).bind fun bt305 => (if (bt295.2 != bt299.2) = true then (none) else ((laws_tSame.f k bt295.1 bt299.1).bind fun t307 => (if t307 = true then (if (bt303.2 != bt305.2) = true then (none) else (if bt303.1 = bt305.1 then (if (bt303.2 != bt295.2) = true then (none) else (if bt295.2 = true then ((impl_IsStepList.f bt291.1).bind fun t308 => (if t308 = true then ((impl_IsStepList.f bt291.1).bind fun t309 => ((spec_IsStepList.f k bt291.1).bind fun t310 => (laws_FnCountedAnew.j0 k l1 bt291.1 bt291.2 bt295.1 bt295.2 bt303.1 (t309 != t310)))) else (none))) else ((impl_IsStepList.f bt291.1).bind fun t311 => ((spec_IsStepList.f k bt291.1).bind fun t312 => (laws_FnCountedAnew.j0 k l1 bt291.1 bt291.2 bt295.1 bt295.2 bt303.1 (t311 != t312)))))) else (none))) else (none)))))))))) = some r := H
  have A3 := Aside0.mk A30
  clear A30
  by_cases c4 : t290 = true
  · subst c4
    have H1 : (some true) = some r := by rw [if_pos rfl] at H; exact H
    clear H
    have H := H1
    clear H1
    obtain rfl := Option.some.inj H
    go_enter Try.func7, Try.ntmps7
    go_wp2_with (first | ((with_reducible refine gate_callee (f := 22) rfl ?_); refine goesL_ (some 45) rfl rfl Try.func22 (by kernel_rfl) rfl #[.slice A0 l0.length c0, .slice A1 l1.length c1] rfl (by (try simp only [List.map_toArray, List.map_cons, List.map_nil]); first | done | rfl | (simp only [List.length_drop, List.length_take]; rfl)) ?_; (with_reducible refine (laws_big.calls _ _ l0 _ _ l1 true _ ?side1 ?side2 ?side3 ?side4 A3.out).mono ?_); (case side1 => repeat (first | exact HR0.out | (with_reducible refine Kd.C_alloc ?_ _) | (with_reducible refine Kd.C_drewN ?_ _) | (with_reducible refine Kd.C_drew ?_))); (case side2 => exact HC0.out); (case side3 => repeat (first | exact HR1.out | (with_reducible refine Kd.C_alloc ?_ _) | (with_reducible refine Kd.C_drewN ?_ _) | (with_reducible refine Kd.C_drew ?_))); (case side4 => exact HC1.out); rintro e w' ⟨rfl, ⟨nd, rfl⟩⟩; refine ⟨_, rfl, ?_⟩))
    go_ret
    exact ⟨by first | rfl | (simp [errW_none, errW_some] <;> rfl) | (simp [*, errW_none, errW_some] <;> rfl), by repeat (first | (with_reducible first | exact HB.out | apply below_alloc | apply pw_below_drewN | apply below_drew1) | exact HB.out)⟩
  · replace c4 := Bool.eq_false_iff.mpr c4
    subst c4
    have H1 : ((spec_DrawLeftByCounting.f k l0).bind fun bt291 => ((impl_LeftByCounting.f k bt291.1 bt291.2).bind fun bt295 => ((spec_LeftByCounting.f k bt291.1 bt291.2).bind fun bt299 => ((impl_CountByCounting.f k bt291.1 bt291.2).bind fun bt303 => ((spec_CountByCounting.f k bt291.1 bt291.2).bind fun bt305 => (if (bt295.2 != bt299.2) = true then (none) else ((laws_tSame.f k bt295.1 bt299.1).bind fun t307 => (if t307 = true then (if (bt303.2 != bt305.2) = true then (none) else (if bt303.1 = bt305.1 then (if (bt303.2 != bt295.2) = true then (none) else (if bt295.2 = true then ((impl_IsStepList.f bt291.1).bind fun t308 => (if t308 = true then ((impl_IsStepList.f bt291.1).bind fun t309 => ((spec_IsStepList.f k bt291.1).bind fun t310 => (laws_FnCountedAnew.j0 k l1 bt291.1 bt291.2 bt295.1 bt295.2 bt303.1 (t309 != t310)))) else (none))) else ((impl_IsStepList.f bt291.1).bind fun t311 => ((spec_IsStepList.f k bt291.1).bind fun t312 => (laws_FnCountedAnew.j0 k l1 bt291.1 bt291.2 bt295.1 bt295.2 bt303.1 (t311 != t312)))))) else (none))) else (none))))))))) = some r := by rw [if_neg (show ¬ (false = true) by decide)] at H; exact H
    clear H
    have H := H1
    clear H1
    replace H := Option.bind_eq_some_iff.mp H
    obtain ⟨⟨t291, t292⟩, A50, H⟩ := H
    replace H : ((impl_LeftByCounting.f k t291 t292).bind fun bt295 => ((spec_LeftByCounting.f k t291 t292).bind fun bt299 => ((impl_CountByCounting.f k t291 t292).bind fun bt303 => ((spec_CountByCounting.f k t291 t292).bind fun bt305 => (if (bt295.2 != bt299.2) = true then (none) else ((laws_tSame.f k bt295.1 bt299.1).bind fun t307 => (if t307 = true then (if (bt303.2 != bt305.2) = true then (none) else (if bt303.1 = bt305.1 then (if (bt303.2 != bt295.2) = true then (none) else (if bt295.2 = true then ((impl_IsStepList.f t291).bind fun t308 => (if t308 = true then ((impl_IsStepList.f t291).bind fun t309 => ((spec_IsStepList.f k t291).bind fun t310 => (laws_FnCountedAnew.j0 k l1 t291 t292 bt295.1 bt295.2 bt303.1 (t309 != t310)))) else (none))) else ((impl_IsStepList.f t291).bind fun t311 => ((spec_IsStepList.f k t291).bind fun t312 => (laws_FnCountedAnew.j0 k l1 t291 t292 bt295.1 bt295.2 bt303.1 (t311 != t312)))))) else (none))) else (none)))))))) = some r := H
    have A5 := Aside0.mk A50
    clear A50
    replace H := Option.bind_eq_some_iff.mp H
    obtain ⟨⟨t295, t298⟩, A60, H⟩ := H
    replace H : ((spec_LeftByCounting.f k t291 t292).bind fun bt299 => ((impl_CountByCounting.f k t291 t292).bind fun bt303 => ((spec_CountByCounting.f k t291 t292).bind fun bt305 => (if (t298 != bt299.2) = true then (none) else ((laws_tSame.f k t295 bt299.1).bind fun t307 => (if t307 = true then (if (bt303.2 != bt305.2) = true then (none) else (if bt303.1 = bt305.1 then (if (bt303.2 != t298) = true then (none) else (if t298 = true then ((impl_IsStepList.f t291).bind fun t308 => (if t308 = true then ((impl_IsStepList.f t291).bind fun t309 => ((spec_IsStepList.f k t291).bind fun t310 => (laws_FnCountedAnew.j0 k l1 t291 t292 t295 t298 bt303.1 (t309 != t310)))) else (none))) else ((impl_IsStepList.f t291).bind fun t311 => ((spec_IsStepList.f k t291).bind fun t312 => (laws_FnCountedAnew.j0 k l1 t291 t292 t295 t298 bt303.1 (t311 != t312)))))) else (none))) else (none))))))) = some r := H
    have A6 := Aside0.mk A60
    clear A60
    replace H := Option.bind_eq_some_iff.mp H
    obtain ⟨⟨t299, t300⟩, A70, H⟩ := H
    replace H : ((impl_CountByCounting.f k t291 t292).bind fun bt303 => ((spec_CountByCounting.f k t291 t292).bind fun bt305 => (if (t298 != t300) = true then (none) else ((laws_tSame.f k t295 t299).bind fun t307 => (if t307 = true then (if (bt303.2 != bt305.2) = true then (none) else (if bt303.1 = bt305.1 then (if (bt303.2 != t298) = true then (none) else (if t298 = true then ((impl_IsStepList.f t291).bind fun t308 => (if t308 = true then ((impl_IsStepList.f t291).bind fun t309 => ((spec_IsStepList.f k t291).bind fun t310 => (laws_FnCountedAnew.j0 k l1 t291 t292 t295 t298 bt303.1 (t309 != t310)))) else (none))) else ((impl_IsStepList.f t291).bind fun t311 => ((spec_IsStepList.f k t291).bind fun t312 => (laws_FnCountedAnew.j0 k l1 t291 t292 t295 t298 bt303.1 (t311 != t312)))))) else (none))) else (none)))))) = some r := H
    have A7 := Aside0.mk A70
    clear A70
    replace H := Option.bind_eq_some_iff.mp H
    obtain ⟨⟨t303, t304⟩, A80, H⟩ := H
    replace H : ((spec_CountByCounting.f k t291 t292).bind fun bt305 => (if (t298 != t300) = true then (none) else ((laws_tSame.f k t295 t299).bind fun t307 => (if t307 = true then (if (t304 != bt305.2) = true then (none) else (if t303 = bt305.1 then (if (t304 != t298) = true then (none) else (if t298 = true then ((impl_IsStepList.f t291).bind fun t308 => (if t308 = true then ((impl_IsStepList.f t291).bind fun t309 => ((spec_IsStepList.f k t291).bind fun t310 => (laws_FnCountedAnew.j0 k l1 t291 t292 t295 t298 t303 (t309 != t310)))) else (none))) else ((impl_IsStepList.f t291).bind fun t311 => ((spec_IsStepList.f k t291).bind fun t312 => (laws_FnCountedAnew.j0 k l1 t291 t292 t295 t298 t303 (t311 != t312)))))) else (none))) else (none))))) = some r := H
    have A8 := Aside0.mk A80
    clear A80
    replace H := Option.bind_eq_some_iff.mp H
    obtain ⟨⟨t305, t306⟩, A90, H⟩ := H
    replace H : (if (t298 != t300) = true then (none) else ((laws_tSame.f k t295 t299).bind fun t307 => (if t307 = true then (if (t304 != t306) = true then (none) else (if t303 = t305 then (if (t304 != t298) = true then (none) else (if t298 = true then ((impl_IsStepList.f t291).bind fun t308 => (if t308 = true then ((impl_IsStepList.f t291).bind fun t309 => ((spec_IsStepList.f k t291).bind fun t310 => (laws_FnCountedAnew.j0 k l1 t291 t292 t295 t298 t303 (t309 != t310)))) else (none))) else ((impl_IsStepList.f t291).bind fun t311 => ((spec_IsStepList.f k t291).bind fun t312 => (laws_FnCountedAnew.j0 k l1 t291 t292 t295 t298 t303 (t311 != t312)))))) else (none))) else (none)))) = some r := H
    have A9 := Aside0.mk A90
    clear A90
    have HC10 := Aside0.mk H
    clear H
    go_enter Try.func7, Try.ntmps7
    go_upto_region 8 with (first | ((with_reducible refine gate_callee (f := 22) rfl ?_); refine goesL_ (some 45) rfl rfl Try.func22 (by kernel_rfl) rfl #[.slice A0 l0.length c0, .slice A1 l1.length c1] rfl (by (try simp only [List.map_toArray, List.map_cons, List.map_nil]); first | done | rfl | (simp only [List.length_drop, List.length_take]; rfl)) ?_; (with_reducible refine (laws_big.calls _ _ l0 _ _ l1 false _ ?side1 ?side2 ?side3 ?side4 A3.out).mono ?_); (case side1 => repeat (first | exact HR0.out | (with_reducible refine Kd.C_alloc ?_ _) | (with_reducible refine Kd.C_drewN ?_ _) | (with_reducible refine Kd.C_drew ?_))); (case side2 => exact HC0.out); (case side3 => repeat (first | exact HR1.out | (with_reducible refine Kd.C_alloc ?_ _) | (with_reducible refine Kd.C_drewN ?_ _) | (with_reducible refine Kd.C_drew ?_))); (case side4 => exact HC1.out); rintro e w' ⟨rfl, ⟨nd, rfl⟩⟩; refine ⟨_, rfl, ?_⟩) | ((with_reducible refine gate_callee (f := 44) rfl ?_); refine goesL_ (some 48) rfl rfl Try.func44 (by kernel_rfl) rfl #[.slice A0 l0.length c0] rfl (by (try simp only [List.map_toArray, List.map_cons, List.map_nil]); first | done | rfl | (simp only [List.length_drop, List.length_take]; rfl)) ?_; (with_reducible refine (spec_DrawLeftByCounting.calls k _ _ l0 t291 t292 _ ?side1 ?side2 A5.out).mono ?_); (case side1 => repeat (first | exact HR0.out | (with_reducible refine Kd.C_alloc ?_ _) | (with_reducible refine Kd.C_drewN ?_ _) | (with_reducible refine Kd.C_drew ?_))); (case side2 => exact HC0.out); rintro e w11 ⟨v293, rfl, ho0, hb⟩; refine ⟨_, rfl, ?_⟩; have n0_ := Aside0.mk (Kd.R_lower ho0 (below_size (by repeat (first | (with_reducible first | exact HB.out | apply below_alloc | apply pw_below_drewN | apply below_drew1) | exact HB.out)))); have n1_ := Aside0.mk (below_step (by repeat (first | (with_reducible first | exact HB.out | apply below_alloc | apply pw_below_drewN | apply below_drew1) | exact HB.out)) hb); clear HB; have HO294 := n0_; have HB := n1_; clear n0_ n1_; (try clear hb); (try clear hb2); (try clear hk); (try clear hi); (try clear ho0); obtain ⟨Ao12, co12, eo12⟩ := Kd.R_slice HO294.out; subst eo12) | ((with_reducible refine gate_callee (f := 45) rfl ?_); refine goesL_ (some 54) rfl rfl Try.func45 (by kernel_rfl) rfl #[.slice Ao12 t291.length co12, .int .i64 t292] rfl (by (try simp only [List.map_toArray, List.map_cons, List.map_nil]); first | done | rfl | (simp only [List.length_drop, List.length_take]; rfl)) ?_; (with_reducible refine (impl_LeftByCounting.calls k _ _ t291 t292 t295 t298 _ ?side1 ?side2 A6.out).mono ?_); (case side1 => repeat (first | exact (Kd.R_reads' HO294.out).2.2 | (with_reducible refine Kd.C_alloc ?_ _) | (with_reducible refine Kd.C_drewN ?_ _) | (with_reducible refine Kd.C_drew ?_))); (case side2 => exact (Kd.R_reads' HO294.out).2.1); rintro e w13 ⟨v296, rfl, ho0, hb⟩; refine ⟨_, rfl, ?_⟩; have n0_ := Aside0.mk (Kd.R_below (by (with_reducible repeat (first | apply Kd.R_alloc | apply Kd.R_drewN | apply Kd.R_drew)); exact HO294.out) hb); have n1_ := Aside0.mk (Kd.V_lower (Kd.V_mono (ok' := fun k_ => some k_ ≠ (.slice Ao12 t291.length co12 : Value).ownBlock) ho0 (fun k_ hk_ => (Kd.fresh' (Kd.R_lt (by (with_reducible repeat (first | apply Kd.R_alloc | apply Kd.R_drewN | apply Kd.R_drew)); exact HO294.out)) k_ hk_))) (below_size (by repeat (first | (with_reducible first | exact HB.out | apply below_alloc | apply pw_below_drewN | apply below_drew1) | exact HB.out)))); have n2_ := Aside0.mk (below_step (by repeat (first | (with_reducible first | exact HB.out | apply below_alloc | apply pw_below_drewN | apply below_drew1) | exact HB.out)) hb); clear HO294; clear HB; have HO294 := n0_; have HO297 := n1_; have HB := n2_; clear n0_ n1_ n2_; (try clear hb); (try clear hb2); (try clear hk); (try clear hi); (try clear ho0)) | ((with_reducible refine gate_callee (f := 46) rfl ?_); refine goesL_ (some 60) rfl rfl Try.func46 (by kernel_rfl) rfl #[.slice Ao12 t291.length co12, .int .i64 t292] rfl (by (try simp only [List.map_toArray, List.map_cons, List.map_nil]); first | done | rfl | (simp only [List.length_drop, List.length_take]; rfl)) ?_; (with_reducible refine (spec_LeftByCounting.calls k _ _ t291 t292 t299 t300 _ ?side1 ?side2 A7.out).mono ?_); (case side1 => repeat (first | exact (Kd.R_reads' HO294.out).2.2 | (with_reducible refine Kd.C_alloc ?_ _) | (with_reducible refine Kd.C_drewN ?_ _) | (with_reducible refine Kd.C_drew ?_))); (case side2 => exact (Kd.R_reads' HO294.out).2.1); rintro e w14 ⟨v301, rfl, ho0, hb⟩; refine ⟨_, rfl, ?_⟩; have n0_ := Aside0.mk (Kd.R_elder' (by (with_reducible repeat (first | apply Kd.R_alloc | apply Kd.R_drewN | apply Kd.R_drew)); exact HO294.out) (Kd.R_base ho0) hb); have n1_ := Aside0.mk (Kd.V_elder' (by (with_reducible repeat (first | apply Kd.V_alloc | apply Kd.V_drewN | apply Kd.V_drew)); exact HO297.out) (Kd.R_base ho0) hb); have n2_ := Aside0.mk (Kd.R_lower (Kd.R_new' ho0 (Kd.R_lt (by (with_reducible repeat (first | apply Kd.R_alloc | apply Kd.R_drewN | apply Kd.R_drew)); exact HO294.out))) (below_size (by repeat (first | (with_reducible first | exact HB.out | apply below_alloc | apply pw_below_drewN | apply below_drew1) | exact HB.out)))); have n3_ := Aside0.mk (below_step (by repeat (first | (with_reducible first | exact HB.out | apply below_alloc | apply pw_below_drewN | apply below_drew1) | exact HB.out)) hb); clear HO294; clear HO297; clear HB; have HO294 := n0_; have HO297 := n1_; have HO302 := n2_; have HB := n3_; clear n0_ n1_ n2_ n3_; (try clear hb); (try clear hb2); (try clear hk); (try clear hi); (try clear ho0)) | ((with_reducible refine gate_callee (f := 47) rfl ?_); refine goesL_ (some 66) rfl rfl Try.func47 (by kernel_rfl) rfl #[.slice Ao12 t291.length co12, .int .i64 t292] rfl (by (try simp only [List.map_toArray, List.map_cons, List.map_nil]); first | done | rfl | (simp only [List.length_drop, List.length_take]; rfl)) ?_; (with_reducible refine (impl_CountByCounting.calls k _ _ t291 t292 t303 t304 _ ?side1 ?side2 A8.out).mono ?_); (case side1 => repeat (first | exact (Kd.R_reads' HO294.out).2.2 | (with_reducible refine Kd.C_alloc ?_ _) | (with_reducible refine Kd.C_drewN ?_ _) | (with_reducible refine Kd.C_drew ?_))); (case side2 => exact (Kd.R_reads' HO294.out).2.1); rintro e w15 ⟨rfl, hb⟩; refine ⟨_, rfl, ?_⟩; have n0_ := Aside0.mk (Kd.R_below (by (with_reducible repeat (first | apply Kd.R_alloc | apply Kd.R_drewN | apply Kd.R_drew)); exact HO294.out) hb); have n1_ := Aside0.mk (Kd.V_below (by (with_reducible repeat (first | apply Kd.V_alloc | apply Kd.V_drewN | apply Kd.V_drew)); exact HO297.out) hb); have n2_ := Aside0.mk (Kd.R_below (by (with_reducible repeat (first | apply Kd.R_alloc | apply Kd.R_drewN | apply Kd.R_drew)); exact HO302.out) hb); have n3_ := Aside0.mk (below_step (by repeat (first | (with_reducible first | exact HB.out | apply below_alloc | apply pw_below_drewN | apply below_drew1) | exact HB.out)) hb); clear HO294; clear HO297; clear HO302; clear HB; have HO294 := n0_; have HO297 := n1_; have HO302 := n2_; have HB := n3_; clear n0_ n1_ n2_ n3_; (try clear hb); (try clear hb2); (try clear hk); (try clear hi)) | ((with_reducible refine gate_callee (f := 48) rfl ?_); refine goesL_ (some 72) rfl rfl Try.func48 (by kernel_rfl) rfl #[.slice Ao12 t291.length co12, .int .i64 t292] rfl (by (try simp only [List.map_toArray, List.map_cons, List.map_nil]); first | done | rfl | (simp only [List.length_drop, List.length_take]; rfl)) ?_; (with_reducible refine (spec_CountByCounting.calls k _ _ t291 t292 t305 t306 _ ?side1 ?side2 A9.out).mono ?_); (case side1 => repeat (first | exact (Kd.R_reads' HO294.out).2.2 | (with_reducible refine Kd.C_alloc ?_ _) | (with_reducible refine Kd.C_drewN ?_ _) | (with_reducible refine Kd.C_drew ?_))); (case side2 => exact (Kd.R_reads' HO294.out).2.1); rintro e w' ⟨rfl, ⟨nd, rfl⟩⟩; refine ⟨_, rfl, ?_⟩))
    (try simp only [Act.put, List.setIfInBounds_toArray, List.set_cons_zero, List.set_cons_succ])
    go_cut [113] (fun v113 wc => ∃ (kq : Nat) (x113_9 : Bool), v113 = .bool x113_9 ∧ Aside0 (laws_FnCountedAnew.j0 kq l1 t291 t292 t295 t298 t303 x113_9 = some r) ∧ Aside0 (kq ≤ k) ∧ Aside0 (Kd.R (Kd.int .i64) 3 wc w.heap.size (fun _ => True) (.slice Ao12 t291.length co12) t291) ∧ Aside0 (Kd.V (Kd.int .i64) 3 wc w.heap.size (fun k_ => some k_ ≠ ((.slice Ao12 t291.length co12) : Value).ownBlock) v296 t295) ∧ Aside0 (Below w.heap.size w wc))
    case first =>
      as_aux_lemma =>
      have H := HC10.out
      clear HC10
      by_cases c16 : (t298 != t300) = true
      · as_aux_lemma =>
        rw [if_pos c16] at H
        exact absurd H (by simp)
      · as_aux_lemma =>
        rw [if_neg c16] at H
        have c16b0 : (t298 != t300) = false := by simpa using c16
        (try (have c16b1 : decide (t298 = t300) = true := by simpa using c16))
        (try (have c16b2 : (t298 == t300) = true := by simpa using c16))
        clear c16
        (first | rw [c16b0] | (simp only [i64_w, i32_w]; rw [c16b0]) | skip)
        replace H := Option.bind_eq_some_iff.mp H
        obtain ⟨t307, A170, H⟩ := H
        replace H : (if t307 = true then (if (t304 != t306) = true then (none) else (if t303 = t305 then (if (t304 != t298) = true then (none) else (if t298 = true then ((impl_IsStepList.f t291).bind fun t308 => (if t308 = true then ((impl_IsStepList.f t291).bind fun t309 => ((spec_IsStepList.f k t291).bind fun t310 => (laws_FnCountedAnew.j0 k l1 t291 t292 t295 t298 t303 (t309 != t310)))) else (none))) else ((impl_IsStepList.f t291).bind fun t311 => ((spec_IsStepList.f k t291).bind fun t312 => (laws_FnCountedAnew.j0 k l1 t291 t292 t295 t298 t303 (t311 != t312)))))) else (none))) else (none)) = some r := H
        have A17 := Aside0.mk A170
        clear A170
        by_cases c18 : t307 = true
        · subst c18
          have H1 : (if (t304 != t306) = true then (none) else (if t303 = t305 then (if (t304 != t298) = true then (none) else (if t298 = true then ((impl_IsStepList.f t291).bind fun t308 => (if t308 = true then ((impl_IsStepList.f t291).bind fun t309 => ((spec_IsStepList.f k t291).bind fun t310 => (laws_FnCountedAnew.j0 k l1 t291 t292 t295 t298 t303 (t309 != t310)))) else (none))) else ((impl_IsStepList.f t291).bind fun t311 => ((spec_IsStepList.f k t291).bind fun t312 => (laws_FnCountedAnew.j0 k l1 t291 t292 t295 t298 t303 (t311 != t312)))))) else (none))) = some r := by rw [if_pos rfl] at H; exact H
          clear H
          have H := H1
          clear H1
          by_cases c19 : (t304 != t306) = true
          · as_aux_lemma =>
            rw [if_pos c19] at H
            exact absurd H (by simp)
          · as_aux_lemma =>
            rw [if_neg c19] at H
            have c19b0 : (t304 != t306) = false := by simpa using c19
            (try (have c19b1 : decide (t304 = t306) = true := by simpa using c19))
            (try (have c19b2 : (t304 == t306) = true := by simpa using c19))
            clear c19
            by_cases c20 : t303 = t305
            · as_aux_lemma =>
              rw [if_pos c20] at H
              have c20b0 : (t303 == t305) = true := beq_iff_eq.mpr c20
              have c20b1 : (t303 != t305) = false := bne_eq_false_iff_eq.mpr c20
              clear c20
              by_cases c21 : (t304 != t298) = true
              · as_aux_lemma =>
                rw [if_pos c21] at H
                exact absurd H (by simp)
              · as_aux_lemma =>
                rw [if_neg c21] at H
                have c21b0 : (t304 != t298) = false := by simpa using c21
                (try (have c21b1 : decide (t304 = t298) = true := by simpa using c21))
                (try (have c21b2 : (t304 == t298) = true := by simpa using c21))
                clear c21
                by_cases c22 : t298 = true
                · subst c22
                  have H1 : ((impl_IsStepList.f t291).bind fun t308 => (if t308 = true then ((impl_IsStepList.f t291).bind fun t309 => ((spec_IsStepList.f k t291).bind fun t310 => (laws_FnCountedAnew.j0 k l1 t291 t292 t295 true t303 (t309 != t310)))) else (none))) = some r := by rw [if_pos rfl] at H; exact H
                  clear H
                  have H := H1
                  clear H1
                  replace H := Option.bind_eq_some_iff.mp H
                  obtain ⟨t308, A230, H⟩ := H
                  replace H : (if t308 = true then ((impl_IsStepList.f t291).bind fun t309 => ((spec_IsStepList.f k t291).bind fun t310 => (laws_FnCountedAnew.j0 k l1 t291 t292 t295 true t303 (t309 != t310)))) else (none)) = some r := H
                  have A23 := Aside0.mk A230
                  clear A230
                  by_cases c24 : t308 = true
                  · subst c24
                    have H1 : ((impl_IsStepList.f t291).bind fun t309 => ((spec_IsStepList.f k t291).bind fun t310 => (laws_FnCountedAnew.j0 k l1 t291 t292 t295 true t303 (t309 != t310)))) = some r := by rw [if_pos rfl] at H; exact H
                    clear H
                    have H := H1
                    clear H1
                    replace H := Option.bind_eq_some_iff.mp H
                    obtain ⟨t309, A250, H⟩ := H
                    replace H : ((spec_IsStepList.f k t291).bind fun t310 => (laws_FnCountedAnew.j0 k l1 t291 t292 t295 true t303 (t309 != t310))) = some r := H
                    have A25 := Aside0.mk A250
                    clear A250
                    have E309 := Aside0.mk (show t309 = true from Option.some.inj (A25.out.symm.trans A23.out))
                    replace H := Option.bind_eq_some_iff.mp H
                    obtain ⟨t310, A260, H⟩ := H
                    replace H : (laws_FnCountedAnew.j0 k l1 t291 t292 t295 true t303 (t309 != t310)) = some r := H
                    have A26 := Aside0.mk A260
                    clear A260
                    have H' := Aside0.mk H
                    clear H
                    obtain ⟨Ao27, co27, eo27⟩ := Kd.V_slice HO297.out
                    subst eo27
                    obtain ⟨Ao28, co28, eo28⟩ := Kd.R_slice HO302.out
                    subst eo28
                    go_wp2_with (first | (go_at_call 49; (with_reducible refine (laws_tSame.calls k _ _ t295 _ _ t299 true _ ?side1 ?side2 ?side3 ?side4 A17.out).mono ?_); (case side1 => repeat (first | exact (Kd.V_reads' HO297.out).2.2 | (with_reducible refine Kd.C_alloc ?_ _) | (with_reducible refine Kd.C_drewN ?_ _) | (with_reducible refine Kd.C_drew ?_))); (case side2 => exact (Kd.V_reads' HO297.out).2.1); (case side3 => repeat (first | exact (Kd.R_reads' HO302.out).2.2 | (with_reducible refine Kd.C_alloc ?_ _) | (with_reducible refine Kd.C_drewN ?_ _) | (with_reducible refine Kd.C_drew ?_))); (case side4 => exact (Kd.R_reads' HO302.out).2.1); rintro e w' ⟨rfl, ⟨nd, rfl⟩⟩) | (go_at_call 50; (with_reducible refine (impl_IsStepList.calls _ _ t291 true _ ?side1 ?side2 A23.out).mono ?_); (case side1 => repeat (first | exact (Kd.R_reads' HO294.out).2.2 | (with_reducible refine Kd.C_alloc ?_ _) | (with_reducible refine Kd.C_drewN ?_ _) | (with_reducible refine Kd.C_drew ?_))); (case side2 => exact (Kd.R_reads' HO294.out).2.1); rintro e w29 ⟨rfl, hb⟩; have n0_ := Aside0.mk (Kd.R_below (by (with_reducible repeat (first | apply Kd.R_alloc | apply Kd.R_drewN | apply Kd.R_drew)); exact HO294.out) hb); have n1_ := Aside0.mk (Kd.V_below (by (with_reducible repeat (first | apply Kd.V_alloc | apply Kd.V_drewN | apply Kd.V_drew)); exact HO297.out) hb); have n2_ := Aside0.mk (Kd.R_below (by (with_reducible repeat (first | apply Kd.R_alloc | apply Kd.R_drewN | apply Kd.R_drew)); exact HO302.out) hb); have n3_ := Aside0.mk (below_step (by repeat (first | (with_reducible first | exact HB.out | apply below_alloc | apply pw_below_drewN | apply below_drew1) | exact HB.out)) hb); clear HO294; clear HO297; clear HO302; clear HB; have HO294 := n0_; have HO297 := n1_; have HO302 := n2_; have HB := n3_; clear n0_ n1_ n2_ n3_; (try clear hb); (try clear hb2); (try clear hk); (try clear hi)) | (go_at_call 50; (with_reducible refine (impl_IsStepList.calls _ _ t291 t309 _ ?side1 ?side2 A25.out).mono ?_); (case side1 => repeat (first | exact (Kd.R_reads' HO294.out).2.2 | (with_reducible refine Kd.C_alloc ?_ _) | (with_reducible refine Kd.C_drewN ?_ _) | (with_reducible refine Kd.C_drew ?_))); (case side2 => exact (Kd.R_reads' HO294.out).2.1); rintro e w30 ⟨rfl, hb⟩; have n0_ := Aside0.mk (Kd.R_below (by (with_reducible repeat (first | apply Kd.R_alloc | apply Kd.R_drewN | apply Kd.R_drew)); exact HO294.out) hb); have n1_ := Aside0.mk (Kd.V_below (by (with_reducible repeat (first | apply Kd.V_alloc | apply Kd.V_drewN | apply Kd.V_drew)); exact HO297.out) hb); have n2_ := Aside0.mk (Kd.R_below (by (with_reducible repeat (first | apply Kd.R_alloc | apply Kd.R_drewN | apply Kd.R_drew)); exact HO302.out) hb); have n3_ := Aside0.mk (below_step (by repeat (first | (with_reducible first | exact HB.out | apply below_alloc | apply pw_below_drewN | apply below_drew1) | exact HB.out)) hb); clear HO294; clear HO297; clear HO302; clear HB; have HO294 := n0_; have HO297 := n1_; have HO302 := n2_; have HB := n3_; clear n0_ n1_ n2_ n3_; (try clear hb); (try clear hb2); (try clear hk); (try clear hi)) | (go_at_call 51; (with_reducible refine (spec_IsStepList.calls k _ _ t291 t310 _ ?side1 ?side2 A26.out).mono ?_); (case side1 => repeat (first | exact (Kd.R_reads' HO294.out).2.2 | (with_reducible refine Kd.C_alloc ?_ _) | (with_reducible refine Kd.C_drewN ?_ _) | (with_reducible refine Kd.C_drew ?_))); (case side2 => exact (Kd.R_reads' HO294.out).2.1); rintro e w' ⟨rfl, ⟨nd, rfl⟩⟩))
                    go_meet
                    case rel => exact ⟨_, ((t309 != t310)), (by first | rfl | (rw [E309.out]; rfl) | (rw [E309.out]; simp) | (simp; done) | (simp [*]; done) | (congr 1; cases t309 <;> cases t310 <;> rfl) | (cases t309 <;> cases t310 <;> simp_all)), H', ⟨by first | omega | exact Nat.le_refl _⟩, ⟨by (with_reducible repeat (first | apply Kd.R_alloc | apply Kd.R_drewN | apply Kd.R_drew)); exact Kd.R_mono HO294.out (fun _ hk => trivial)⟩, ⟨by (with_reducible repeat (first | apply Kd.V_alloc | apply Kd.V_drewN | apply Kd.V_drew)); exact Kd.V_mono HO297.out (fun _ hk => hk.1)⟩, ⟨by repeat (first | (with_reducible first | exact HB.out | apply below_alloc | apply pw_below_drewN | apply below_drew1) | exact HB.out)⟩⟩
                  · replace c24 := Bool.eq_false_iff.mpr c24
                    subst c24
                    have H1 : (none) = some r := by rw [if_neg (show ¬ (false = true) by decide)] at H; exact H
                    clear H
                    have H := H1
                    clear H1
                    exact absurd H (by simp)
                · replace c22 := Bool.eq_false_iff.mpr c22
                  subst c22
                  have H1 : ((impl_IsStepList.f t291).bind fun t311 => ((spec_IsStepList.f k t291).bind fun t312 => (laws_FnCountedAnew.j0 k l1 t291 t292 t295 false t303 (t311 != t312)))) = some r := by rw [if_neg (show ¬ (false = true) by decide)] at H; exact H
                  clear H
                  have H := H1
                  clear H1
                  replace H := Option.bind_eq_some_iff.mp H
                  obtain ⟨t311, A310, H⟩ := H
                  replace H : ((spec_IsStepList.f k t291).bind fun t312 => (laws_FnCountedAnew.j0 k l1 t291 t292 t295 false t303 (t311 != t312))) = some r := H
                  have A31 := Aside0.mk A310
                  clear A310
                  replace H := Option.bind_eq_some_iff.mp H
                  obtain ⟨t312, A320, H⟩ := H
                  replace H : (laws_FnCountedAnew.j0 k l1 t291 t292 t295 false t303 (t311 != t312)) = some r := H
                  have A32 := Aside0.mk A320
                  clear A320
                  have H' := Aside0.mk H
                  clear H
                  obtain ⟨Ao33, co33, eo33⟩ := Kd.V_slice HO297.out
                  subst eo33
                  obtain ⟨Ao34, co34, eo34⟩ := Kd.R_slice HO302.out
                  subst eo34
                  go_wp2_with (first | (go_at_call 49; (with_reducible refine (laws_tSame.calls k _ _ t295 _ _ t299 true _ ?side1 ?side2 ?side3 ?side4 A17.out).mono ?_); (case side1 => repeat (first | exact (Kd.V_reads' HO297.out).2.2 | (with_reducible refine Kd.C_alloc ?_ _) | (with_reducible refine Kd.C_drewN ?_ _) | (with_reducible refine Kd.C_drew ?_))); (case side2 => exact (Kd.V_reads' HO297.out).2.1); (case side3 => repeat (first | exact (Kd.R_reads' HO302.out).2.2 | (with_reducible refine Kd.C_alloc ?_ _) | (with_reducible refine Kd.C_drewN ?_ _) | (with_reducible refine Kd.C_drew ?_))); (case side4 => exact (Kd.R_reads' HO302.out).2.1); rintro e w' ⟨rfl, ⟨nd, rfl⟩⟩) | (go_at_call 50; (with_reducible refine (impl_IsStepList.calls _ _ t291 t311 _ ?side1 ?side2 A31.out).mono ?_); (case side1 => repeat (first | exact (Kd.R_reads' HO294.out).2.2 | (with_reducible refine Kd.C_alloc ?_ _) | (with_reducible refine Kd.C_drewN ?_ _) | (with_reducible refine Kd.C_drew ?_))); (case side2 => exact (Kd.R_reads' HO294.out).2.1); rintro e w35 ⟨rfl, hb⟩; have n0_ := Aside0.mk (Kd.R_below (by (with_reducible repeat (first | apply Kd.R_alloc | apply Kd.R_drewN | apply Kd.R_drew)); exact HO294.out) hb); have n1_ := Aside0.mk (Kd.V_below (by (with_reducible repeat (first | apply Kd.V_alloc | apply Kd.V_drewN | apply Kd.V_drew)); exact HO297.out) hb); have n2_ := Aside0.mk (Kd.R_below (by (with_reducible repeat (first | apply Kd.R_alloc | apply Kd.R_drewN | apply Kd.R_drew)); exact HO302.out) hb); have n3_ := Aside0.mk (below_step (by repeat (first | (with_reducible first | exact HB.out | apply below_alloc | apply pw_below_drewN | apply below_drew1) | exact HB.out)) hb); clear HO294; clear HO297; clear HO302; clear HB; have HO294 := n0_; have HO297 := n1_; have HO302 := n2_; have HB := n3_; clear n0_ n1_ n2_ n3_; (try clear hb); (try clear hb2); (try clear hk); (try clear hi)) | (go_at_call 51; (with_reducible refine (spec_IsStepList.calls k _ _ t291 t312 _ ?side1 ?side2 A32.out).mono ?_); (case side1 => repeat (first | exact (Kd.R_reads' HO294.out).2.2 | (with_reducible refine Kd.C_alloc ?_ _) | (with_reducible refine Kd.C_drewN ?_ _) | (with_reducible refine Kd.C_drew ?_))); (case side2 => exact (Kd.R_reads' HO294.out).2.1); rintro e w' ⟨rfl, ⟨nd, rfl⟩⟩))
                  go_meet
                  case rel => exact ⟨_, ((t311 != t312)), (by first | rfl | (simp; done) | (simp [*]; done) | (congr 1; cases t311 <;> cases t312 <;> rfl) | (cases t311 <;> cases t312 <;> simp_all)), H', ⟨by first | omega | exact Nat.le_refl _⟩, ⟨by (with_reducible repeat (first | apply Kd.R_alloc | apply Kd.R_drewN | apply Kd.R_drew)); exact Kd.R_mono HO294.out (fun _ hk => trivial)⟩, ⟨by (with_reducible repeat (first | apply Kd.V_alloc | apply Kd.V_drewN | apply Kd.V_drew)); exact Kd.V_mono HO297.out (fun _ hk => hk.1)⟩, ⟨by repeat (first | (with_reducible first | exact HB.out | apply below_alloc | apply pw_below_drewN | apply below_drew1) | exact HB.out)⟩⟩
            · as_aux_lemma =>
              rw [if_neg c20] at H
              exact absurd H (by simp)
        · replace c18 := Bool.eq_false_iff.mpr c18
          subst c18
          have H1 : (none) = some r := by rw [if_neg (show ¬ (false = true) by decide)] at H; exact H
          clear H
          have H := H1
          clear H1
          exact absurd H (by simp)
    case rest =>
      as_aux_lemma =>
      clear HC10
      try clear c1
      try clear c2
      try clear p2
      try clear c4
      try clear c7
      try clear c16
      try clear c16b0
      try clear c16b1
      try clear c16b2
      try clear c18
      try clear c19
      try clear c19b0
      try clear c19b1
      try clear c19b2
      try clear c20
      try clear c20b0
      try clear c20b1
      try clear c21
      try clear c21b0
      try clear c21b1
      try clear c21b2
      try clear c22
      try clear c24
      obtain ⟨kq, x113_9, rfl, HA, HJ9, HO_5, HO_7, HB⟩ := hcut
      cases kq with
      | zero => exact absurd HA.out (by simp [laws_FnCountedAnew.j0])
      | succ kj9 =>
        have H := HA.out
        clear HA
        simp only [laws_FnCountedAnew.j0] at H
        by_cases c36 : x113_9 = true
        · subst c36
          have H1 : (none) = some r := by rw [if_pos rfl] at H; exact H
          clear H
          have H := H1
          clear H1
          exact absurd H (by simp)
        · replace c36 := Bool.eq_false_iff.mpr c36
          subst c36
          have H1 : (if t298 = true then (if (t295.length : Int) = t303 then ((laws_tRises.f kj9 t295 1 t292).bind fun t313 => (if t313 = true then (laws_FnCountedAnew.l0 kj9 l1 t291 t292 t295 t303 1) else (none))) else (none)) else (laws_FnCountedAnew.j3 kj9 l1)) = some r := by rw [if_neg (show ¬ (false = true) by decide)] at H; exact H
          clear H
          have H := H1
          clear H1
          have HC37 := Aside0.mk H
          clear H
          go_upto_if 114 with (fail)
          go_cut [] (fun wc => ∃ (kq : Nat), Aside0 (laws_FnCountedAnew.j3 kq l1 = some r) ∧ Aside0 (kq ≤ kj9) ∧ Aside0 (Below w.heap.size w wc))
          case first =>
            as_aux_lemma =>
            have H := HC37.out
            clear HC37
            by_cases c38 : t298 = true
            · subst c38
              have H1 : (if (t295.length : Int) = t303 then ((laws_tRises.f kj9 t295 1 t292).bind fun t313 => (if t313 = true then (laws_FnCountedAnew.l0 kj9 l1 t291 t292 t295 t303 1) else (none))) else (none)) = some r := by rw [if_pos rfl] at H; exact H
              clear H
              have H := H1
              clear H1
              by_cases c39 : (t295.length : Int) = t303
              · as_aux_lemma =>
                rw [if_pos c39] at H
                have c39b0 : ((t295.length : Int) == t303) = true := beq_iff_eq.mpr c39
                have c39b1 : ((t295.length : Int) != t303) = false := bne_eq_false_iff_eq.mpr c39
                clear c39
                (first | rw [c39b0] | (simp only [i64_w, i32_w]; rw [c39b0]) | skip)
                replace H := Option.bind_eq_some_iff.mp H
                obtain ⟨t313, A400, H⟩ := H
                replace H : (if t313 = true then (laws_FnCountedAnew.l0 kj9 l1 t291 t292 t295 t303 1) else (none)) = some r := H
                have A40 := Aside0.mk A400
                clear A400
                by_cases c41 : t313 = true
                · subst c41
                  have H1 : (laws_FnCountedAnew.l0 kj9 l1 t291 t292 t295 t303 1) = some r := by rw [if_pos rfl] at H; exact H
                  clear H
                  have H := H1
                  clear H1
                  have H' := Aside0.mk H
                  clear H
                  obtain ⟨Ao42, co42, eo42⟩ := Kd.V_slice HO_7.out
                  subst eo42
                  go_wp2_with (first | (go_at_call 52; (with_reducible refine (laws_tRises.calls kj9 _ _ t295 1 t292 true _ ?side1 ?side2 A40.out).mono ?_); (case side1 => repeat (first | exact (Kd.V_reads' HO_7.out).2.2 | (with_reducible refine Kd.C_alloc ?_ _) | (with_reducible refine Kd.C_drewN ?_ _) | (with_reducible refine Kd.C_drew ?_))); (case side2 => exact (Kd.V_reads' HO_7.out).2.1); rintro e w' ⟨rfl, ⟨nd, rfl⟩⟩))
                  go_loopg [15] kj9 (fun kq v15 w' => ∃ (x15_2 : Int), v15 = .int .i64 x15_2 ∧ Aside0 (laws_FnCountedAnew.l0 kq l1 t291 t292 t295 t303 x15_2 = some r) ∧ Aside0 (kq ≤ kj9) ∧ Aside0 (Kd.R (Kd.int .i64) 3 w' w.heap.size (fun _ => True) (.slice Ao12 t291.length co12) t291) ∧ Aside0 (Kd.V (Kd.int .i64) 3 w' w.heap.size (fun k_ => some k_ ≠ ((.slice Ao12 t291.length co12) : Value).ownBlock) (.slice Ao42 t295.length co42) t295) ∧ Aside0 (Below w.heap.size w w'))
                  case atStart => exact ⟨(1), (by first | rfl | (simp; done) | (simp [*]; done)), H', ⟨Nat.le_refl _⟩, ⟨by (with_reducible repeat (first | apply Kd.R_alloc | apply Kd.R_drewN | apply Kd.R_drew)); exact HO_5.out⟩, ⟨by (with_reducible repeat (first | apply Kd.V_alloc | apply Kd.V_drewN | apply Kd.V_drew)); exact HO_7.out⟩, ⟨by repeat (first | (with_reducible first | exact HB.out | apply below_alloc | apply pw_below_drewN | apply below_drew1) | exact HB.out)⟩⟩
                  case round =>
                    as_aux_lemma =>
                    clear H'
                    try clear c1
                    try clear c2
                    try clear p2
                    try clear c3
                    try clear c4
                    try clear c7
                    try clear c16
                    try clear c16b0
                    try clear c16b1
                    try clear c16b2
                    try clear c18
                    try clear c19
                    try clear c19b0
                    try clear c19b1
                    try clear c19b2
                    try clear c20
                    try clear c20b0
                    try clear c20b1
                    try clear c21
                    try clear c21b0
                    try clear c21b1
                    try clear c21b2
                    try clear c22
                    try clear c24
                    try clear c36
                    try clear c38
                    try clear c39
                    try clear c39b0
                    try clear c39b1
                    try clear c41
                    try clear p2
                    obtain ⟨x15_2, rfl, HA, HK2, HO_5, HO_7, HB⟩ := hrel
                    cases gk with
                    | zero => exact absurd HA.out (by simp [laws_FnCountedAnew.l0])
                    | succ k2 =>
                      have H := HA.out
                      clear HA
                      simp only [laws_FnCountedAnew.l0] at H
                      by_cases c43 : x15_2 ≤ t292
                      · as_aux_lemma =>
                        rw [if_pos c43] at H
                        have c43b0 : decide (x15_2 ≤ t292) = true := decide_eq_true c43
                        clear c43
                        replace H := Option.bind_eq_some_iff.mp H
                        obtain ⟨⟨t314, t315⟩, A440, H⟩ := H
                        replace H : ((impl_RankBehind.f k2 t291 x15_2).bind fun bt316 => (if (t315 == bt316.2) = true then (none) else ((laws_tHas.f k2 t295 x15_2).bind fun t318 => (if (bt316.2 != t318) = true then (none) else (if t315 = true then (if t314 < 0 then (none) else (if t314 ≥ (t291.length : Int) then (none) else (if bt316.2 = true then (none) else (laws_FnCountedAnew.j2 k2 l1 t291 t292 t295 t303 x15_2 bt316.1 bt316.2 false)))) else (if bt316.2 = true then (if 0 ≤ bt316.1 then (if bt316.1 < (t295.length : Int) then (laws_FnCountedAnew.j2 k2 l1 t291 t292 t295 t303 x15_2 bt316.1 bt316.2 ((rd t295 bt316.1) != x15_2)) else (none)) else (none)) else (none))))))) = some r := H
                        have A44 := Aside0.mk A440
                        clear A440
                        replace H := Option.bind_eq_some_iff.mp H
                        obtain ⟨⟨t316, t317⟩, A450, H⟩ := H
                        replace H : (if (t315 == t317) = true then (none) else ((laws_tHas.f k2 t295 x15_2).bind fun t318 => (if (t317 != t318) = true then (none) else (if t315 = true then (if t314 < 0 then (none) else (if t314 ≥ (t291.length : Int) then (none) else (if t317 = true then (none) else (laws_FnCountedAnew.j2 k2 l1 t291 t292 t295 t303 x15_2 t316 t317 false)))) else (if t317 = true then (if 0 ≤ t316 then (if t316 < (t295.length : Int) then (laws_FnCountedAnew.j2 k2 l1 t291 t292 t295 t303 x15_2 t316 t317 ((rd t295 t316) != x15_2)) else (none)) else (none)) else (none)))))) = some r := H
                        have A45 := Aside0.mk A450
                        clear A450
                        have HC46 := Aside0.mk H
                        clear H
                        go_upto_region 18 with (first | ((with_reducible refine gate_callee (f := 53) rfl ?_); refine goesL_ (some 133) rfl rfl Try.func53 (by kernel_rfl) rfl #[.slice Ao12 t291.length co12, .int .i64 x15_2] rfl (by (try simp only [List.map_toArray, List.map_cons, List.map_nil]); first | done | rfl | (simp only [List.length_drop, List.length_take]; rfl)) ?_; (with_reducible refine (impl_StepOfFall.calls k2 _ _ t291 x15_2 t314 t315 _ ?side1 ?side2 A44.out).mono ?_); (case side1 => repeat (first | exact (Kd.R_reads' HO_5.out).2.2 | (with_reducible refine Kd.C_alloc ?_ _) | (with_reducible refine Kd.C_drewN ?_ _) | (with_reducible refine Kd.C_drew ?_))); (case side2 => exact (Kd.R_reads' HO_5.out).2.1); rintro e w47 ⟨rfl, hb⟩; refine ⟨_, rfl, ?_⟩; have n0_ := Aside0.mk (Kd.R_below (by (with_reducible repeat (first | apply Kd.R_alloc | apply Kd.R_drewN | apply Kd.R_drew)); exact HO_5.out) hb); have n1_ := Aside0.mk (Kd.V_below (by (with_reducible repeat (first | apply Kd.V_alloc | apply Kd.V_drewN | apply Kd.V_drew)); exact HO_7.out) hb); have n2_ := Aside0.mk (below_step (by repeat (first | (with_reducible first | exact HB.out | apply below_alloc | apply pw_below_drewN | apply below_drew1) | exact HB.out)) hb); clear HO_5; clear HO_7; clear HB; have HO_5 := n0_; have HO_7 := n1_; have HB := n2_; clear n0_ n1_ n2_; (try clear hb); (try clear hb2); (try clear hk); (try clear hi)) | ((with_reducible refine gate_callee (f := 54) rfl ?_); refine goesL_ (some 139) rfl rfl Try.func54 (by kernel_rfl) rfl #[.slice Ao12 t291.length co12, .int .i64 x15_2] rfl (by (try simp only [List.map_toArray, List.map_cons, List.map_nil]); first | done | rfl | (simp only [List.length_drop, List.length_take]; rfl)) ?_; (with_reducible refine (impl_RankBehind.calls k2 _ _ t291 x15_2 t316 t317 _ ?side1 ?side2 A45.out).mono ?_); (case side1 => repeat (first | exact (Kd.R_reads' HO_5.out).2.2 | (with_reducible refine Kd.C_alloc ?_ _) | (with_reducible refine Kd.C_drewN ?_ _) | (with_reducible refine Kd.C_drew ?_))); (case side2 => exact (Kd.R_reads' HO_5.out).2.1); rintro e w48 ⟨rfl, hb⟩; refine ⟨_, rfl, ?_⟩; have n0_ := Aside0.mk (Kd.R_below (by (with_reducible repeat (first | apply Kd.R_alloc | apply Kd.R_drewN | apply Kd.R_drew)); exact HO_5.out) hb); have n1_ := Aside0.mk (Kd.V_below (by (with_reducible repeat (first | apply Kd.V_alloc | apply Kd.V_drewN | apply Kd.V_drew)); exact HO_7.out) hb); have n2_ := Aside0.mk (below_step (by repeat (first | (with_reducible first | exact HB.out | apply below_alloc | apply pw_below_drewN | apply below_drew1) | exact HB.out)) hb); clear HO_5; clear HO_7; clear HB; have HO_5 := n0_; have HO_7 := n1_; have HB := n2_; clear n0_ n1_ n2_; (try clear hb); (try clear hb2); (try clear hk); (try clear hi)))
                        (try simp only [Act.put, List.setIfInBounds_toArray, List.set_cons_zero, List.set_cons_succ])
                        go_cut [175] (fun v175 wc => ∃ (kq : Nat) (x175_45 : Bool), v175 = .bool x175_45 ∧ Aside0 (laws_FnCountedAnew.j2 kq l1 t291 t292 t295 t303 x15_2 t316 t317 x175_45 = some r) ∧ Aside0 (kq ≤ k2) ∧ Aside0 (Kd.R (Kd.int .i64) 3 wc w.heap.size (fun _ => True) (.slice Ao12 t291.length co12) t291) ∧ Aside0 (Kd.V (Kd.int .i64) 3 wc w.heap.size (fun k_ => some k_ ≠ ((.slice Ao12 t291.length co12) : Value).ownBlock) (.slice Ao42 t295.length co42) t295) ∧ Aside0 (Below w.heap.size w wc))
                        case first =>
                          as_aux_lemma =>
                          have H := HC46.out
                          clear HC46
                          by_cases c49 : (t315 == t317) = true
                          · as_aux_lemma =>
                            rw [if_pos c49] at H
                            exact absurd H (by simp)
                          · as_aux_lemma =>
                            rw [if_neg c49] at H
                            have c49b0 : (t315 == t317) = false := by simpa using c49
                            (try (have c49b1 : decide (t315 = t317) = false := by simpa using c49))
                            (try (have c49b2 : (t315 == t317) = false := by simpa using c49))
                            (try (have c49b3 : ¬ (t315 = t317) := by simpa using c49))
                            clear c49
                            (first | rw [c49b0] | (simp only [i64_w, i32_w]; rw [c49b0]) | skip)
                            replace H := Option.bind_eq_some_iff.mp H
                            obtain ⟨t318, A500, H⟩ := H
                            replace H : (if (t317 != t318) = true then (none) else (if t315 = true then (if t314 < 0 then (none) else (if t314 ≥ (t291.length : Int) then (none) else (if t317 = true then (none) else (laws_FnCountedAnew.j2 k2 l1 t291 t292 t295 t303 x15_2 t316 t317 false)))) else (if t317 = true then (if 0 ≤ t316 then (if t316 < (t295.length : Int) then (laws_FnCountedAnew.j2 k2 l1 t291 t292 t295 t303 x15_2 t316 t317 ((rd t295 t316) != x15_2)) else (none)) else (none)) else (none)))) = some r := H
                            have A50 := Aside0.mk A500
                            clear A500
                            by_cases c51 : (t317 != t318) = true
                            · as_aux_lemma =>
                              rw [if_pos c51] at H
                              exact absurd H (by simp)
                            · as_aux_lemma =>
                              rw [if_neg c51] at H
                              have c51b0 : (t317 != t318) = false := by simpa using c51
                              (try (have c51b1 : decide (t317 = t318) = true := by simpa using c51))
                              (try (have c51b2 : (t317 == t318) = true := by simpa using c51))
                              clear c51
                              by_cases c52 : t315 = true
                              · subst c52
                                have H1 : (if t314 < 0 then (none) else (if t314 ≥ (t291.length : Int) then (none) else (if t317 = true then (none) else (laws_FnCountedAnew.j2 k2 l1 t291 t292 t295 t303 x15_2 t316 t317 false)))) = some r := by rw [if_pos rfl] at H; exact H
                                clear H
                                have H := H1
                                clear H1
                                by_cases c53 : t314 < 0
                                · as_aux_lemma =>
                                  rw [if_pos c53] at H
                                  exact absurd H (by simp)
                                · as_aux_lemma =>
                                  rw [if_neg c53] at H
                                  have c53b0 : decide (t314 < 0) = false := decide_eq_false c53
                                  clear c53
                                  by_cases c54 : t314 ≥ (t291.length : Int)
                                  · as_aux_lemma =>
                                    rw [if_pos c54] at H
                                    exact absurd H (by simp)
                                  · as_aux_lemma =>
                                    rw [if_neg c54] at H
                                    have c54b0 : decide ((t291.length : Int) ≤ t314) = false := decide_eq_false c54
                                    clear c54
                                    by_cases c55 : t317 = true
                                    · subst c55
                                      have H1 : (none) = some r := by rw [if_pos rfl] at H; exact H
                                      clear H
                                      have H := H1
                                      clear H1
                                      exact absurd H (by simp)
                                    · replace c55 := Bool.eq_false_iff.mpr c55
                                      subst c55
                                      have H1 : (laws_FnCountedAnew.j2 k2 l1 t291 t292 t295 t303 x15_2 t316 false false) = some r := by rw [if_neg (show ¬ (false = true) by decide)] at H; exact H
                                      clear H
                                      have H := H1
                                      clear H1
                                      have H' := Aside0.mk H
                                      clear H
                                      go_wp2_with (first | (go_at_call 55; (with_reducible refine (laws_tHas.calls k2 _ _ t295 x15_2 t318 _ ?side1 ?side2 A50.out).mono ?_); (case side1 => repeat (first | exact (Kd.V_reads' HO_7.out).2.2 | (with_reducible refine Kd.C_alloc ?_ _) | (with_reducible refine Kd.C_drewN ?_ _) | (with_reducible refine Kd.C_drew ?_))); (case side2 => exact (Kd.V_reads' HO_7.out).2.1); rintro e w' ⟨rfl, ⟨nd, rfl⟩⟩))
                                      go_meet
                                      case rel => exact ⟨_, (false), (by first | rfl | (simp; done) | (simp [*]; done)), H', ⟨by have := HJ9.out; have := HK2.out; first | omega | exact Nat.le_refl _⟩, ⟨by (with_reducible repeat (first | apply Kd.R_alloc | apply Kd.R_drewN | apply Kd.R_drew)); exact HO_5.out⟩, ⟨by (with_reducible repeat (first | apply Kd.V_alloc | apply Kd.V_drewN | apply Kd.V_drew)); exact HO_7.out⟩, ⟨by repeat (first | (with_reducible first | exact HB.out | apply below_alloc | apply pw_below_drewN | apply below_drew1) | exact HB.out)⟩⟩
                              · replace c52 := Bool.eq_false_iff.mpr c52
                                subst c52
                                have H1 : (if t317 = true then (if 0 ≤ t316 then (if t316 < (t295.length : Int) then (laws_FnCountedAnew.j2 k2 l1 t291 t292 t295 t303 x15_2 t316 t317 ((rd t295 t316) != x15_2)) else (none)) else (none)) else (none)) = some r := by rw [if_neg (show ¬ (false = true) by decide)] at H; exact H
                                clear H
                                have H := H1
                                clear H1
                                by_cases c56 : t317 = true
                                · subst c56
                                  have H1 : (if 0 ≤ t316 then (if t316 < (t295.length : Int) then (laws_FnCountedAnew.j2 k2 l1 t291 t292 t295 t303 x15_2 t316 true ((rd t295 t316) != x15_2)) else (none)) else (none)) = some r := by rw [if_pos rfl] at H; exact H
                                  clear H
                                  have H := H1
                                  clear H1
                                  by_cases c57 : 0 ≤ t316
                                  · as_aux_lemma =>
                                    rw [if_pos c57] at H
                                    have c57b0 : decide (0 ≤ t316) = true := decide_eq_true c57
                                    clear c57
                                    by_cases c58 : t316 < (t295.length : Int)
                                    · as_aux_lemma =>
                                      rw [if_pos c58] at H
                                      have c58b0 : decide (t316 < (t295.length : Int)) = true := decide_eq_true c58
                                      clear c58
                                      have H' := Aside0.mk H
                                      clear H
                                      go_wp2_with (first | (go_at_call 55; (with_reducible refine (laws_tHas.calls k2 _ _ t295 x15_2 t318 _ ?side1 ?side2 A50.out).mono ?_); (case side1 => repeat (first | exact (Kd.V_reads' HO_7.out).2.2 | (with_reducible refine Kd.C_alloc ?_ _) | (with_reducible refine Kd.C_drewN ?_ _) | (with_reducible refine Kd.C_drew ?_))); (case side2 => exact (Kd.V_reads' HO_7.out).2.1); rintro e w' ⟨rfl, ⟨nd, rfl⟩⟩; have p319 : 0 ≤ (t316 : Int) := of_decide_eq_true (by first | (with_reducible assumption) | assumption); have q319 : t316 < (t295.length : Int) := of_decide_eq_true (by first | (with_reducible assumption) | assumption); obtain ⟨ad319, e319, hx319_0⟩ := Kd.at_int (Kd.V_reads' HO_7.out).2.2 t316 p319 q319; cases e319; replace p319 := eq_true p319; replace q319 := eq_true q319))
                                      go_meet
                                      case rel => exact ⟨_, (((rd t295 t316) != x15_2)), (by first | rfl | (simp; done) | (simp [*]; done)), H', ⟨by have := HJ9.out; have := HK2.out; first | omega | exact Nat.le_refl _⟩, ⟨by (with_reducible repeat (first | apply Kd.R_alloc | apply Kd.R_drewN | apply Kd.R_drew)); exact HO_5.out⟩, ⟨by (with_reducible repeat (first | apply Kd.V_alloc | apply Kd.V_drewN | apply Kd.V_drew)); exact HO_7.out⟩, ⟨by repeat (first | (with_reducible first | exact HB.out | apply below_alloc | apply pw_below_drewN | apply below_drew1) | exact HB.out)⟩⟩
                                    · as_aux_lemma =>
                                      rw [if_neg c58] at H
                                      exact absurd H (by simp)
                                  · as_aux_lemma =>
                                    rw [if_neg c57] at H
                                    exact absurd H (by simp)
                                · replace c56 := Bool.eq_false_iff.mpr c56
                                  subst c56
                                  have H1 : (none) = some r := by rw [if_neg (show ¬ (false = true) by decide)] at H; exact H
                                  clear H
                                  have H := H1
                                  clear H1
                                  exact absurd H (by simp)
                        case rest =>
                          as_aux_lemma =>
                          clear HC46
                          try clear c1
                          try clear c2
                          try clear p2
                          try clear c3
                          try clear p3
                          try clear q3
                          try clear hx3
                          try clear c4
                          try clear c5
                          try clear c7
                          try clear c16
                          try clear c16b0
                          try clear c16b1
                          try clear c16b2
                          try clear c18
                          try clear c19
                          try clear c19b0
                          try clear c19b1
                          try clear c19b2
                          try clear c20
                          try clear c20b0
                          try clear c20b1
                          try clear c21
                          try clear c21b0
                          try clear c21b1
                          try clear c21b2
                          try clear c22
                          try clear c24
                          try clear p31
                          try clear q31
                          try clear hx31
                          try clear c36
                          try clear c38
                          try clear c39
                          try clear c39b0
                          try clear c39b1
                          try clear c41
                          try clear c43
                          try clear c43b0
                          try clear c44
                          try clear c45
                          try clear c46
                          try clear c47
                          try clear c48
                          try clear c49
                          try clear c49b0
                          try clear c49b1
                          try clear c49b2
                          try clear c51
                          try clear c51b0
                          try clear c51b1
                          try clear c51b2
                          try clear c52
                          try clear c53
                          try clear c53b0
                          try clear c54
                          try clear c54b0
                          try clear c55
                          try clear c56
                          try clear c57
                          try clear c57b0
                          try clear c58
                          try clear c58b0
                          try clear hx319_0
                          try clear p2
                          try clear p319
                          try clear q319
                          obtain ⟨kq, x175_45, rfl, HA, HJ45, HO_5, HO_7, HB⟩ := hcut
                          cases kq with
                          | zero => exact absurd HA.out (by simp [laws_FnCountedAnew.j2])
                          | succ kj45 =>
                            have H := HA.out
                            clear HA
                            simp only [laws_FnCountedAnew.j2] at H
                            by_cases c59 : x175_45 = true
                            · subst c59
                              have H1 : (none) = some r := by rw [if_pos rfl] at H; exact H
                              clear H
                              have H := H1
                              clear H1
                              exact absurd H (by simp)
                            · replace c59 := Bool.eq_false_iff.mpr c59
                              subst c59
                              have H1 : (if t317 = true then ((impl_NumberOfRank.f kj45 t291 t316).bind fun bt320 => (if bt320.2 = true then (if bt320.1 = x15_2 then (laws_FnCountedAnew.l0 kj45 l1 t291 t292 t295 t303 (wrap64 (x15_2 + 1))) else (none)) else (none))) else (laws_FnCountedAnew.l0 kj45 l1 t291 t292 t295 t303 (wrap64 (x15_2 + 1)))) = some r := by rw [if_neg (show ¬ (false = true) by decide)] at H; exact H
                              clear H
                              have H := H1
                              clear H1
                              by_cases c60 : t317 = true
                              · subst c60
                                have H1 : ((impl_NumberOfRank.f kj45 t291 t316).bind fun bt320 => (if bt320.2 = true then (if bt320.1 = x15_2 then (laws_FnCountedAnew.l0 kj45 l1 t291 t292 t295 t303 (wrap64 (x15_2 + 1))) else (none)) else (none))) = some r := by rw [if_pos rfl] at H; exact H
                                clear H
                                have H := H1
                                clear H1
                                replace H := Option.bind_eq_some_iff.mp H
                                obtain ⟨⟨t320, t321⟩, A610, H⟩ := H
                                replace H : (if t321 = true then (if t320 = x15_2 then (laws_FnCountedAnew.l0 kj45 l1 t291 t292 t295 t303 (wrap64 (x15_2 + 1))) else (none)) else (none)) = some r := H
                                have A61 := Aside0.mk A610
                                clear A610
                                by_cases c62 : t321 = true
                                · subst c62
                                  have H1 : (if t320 = x15_2 then (laws_FnCountedAnew.l0 kj45 l1 t291 t292 t295 t303 (wrap64 (x15_2 + 1))) else (none)) = some r := by rw [if_pos rfl] at H; exact H
                                  clear H
                                  have H := H1
                                  clear H1
                                  by_cases c63 : t320 = x15_2
                                  · as_aux_lemma =>
                                    rw [if_pos c63] at H
                                    have c63b0 : (t320 == x15_2) = true := beq_iff_eq.mpr c63
                                    have c63b1 : (t320 != x15_2) = false := bne_eq_false_iff_eq.mpr c63
                                    clear c63
                                    have H' := Aside0.mk H
                                    clear H
                                    go_wp2_with (first | ((with_reducible refine gate_callee (f := 56) rfl ?_); refine goesL_ (some 180) rfl rfl Try.func56 (by kernel_rfl) rfl #[.slice Ao12 t291.length co12, .int .i64 t316] rfl (by (try simp only [List.map_toArray, List.map_cons, List.map_nil]); first | done | rfl | (simp only [List.length_drop, List.length_take]; rfl)) ?_; (with_reducible refine (impl_NumberOfRank.calls kj45 _ _ t291 t316 t320 true _ ?side1 ?side2 A61.out).mono ?_); (case side1 => repeat (first | exact (Kd.R_reads' HO_5.out).2.2 | (with_reducible refine Kd.C_alloc ?_ _) | (with_reducible refine Kd.C_drewN ?_ _) | (with_reducible refine Kd.C_drew ?_))); (case side2 => exact (Kd.R_reads' HO_5.out).2.1); rintro e w64 ⟨rfl, hb⟩; refine ⟨_, rfl, ?_⟩; have n0_ := Aside0.mk (Kd.R_below (by (with_reducible repeat (first | apply Kd.R_alloc | apply Kd.R_drewN | apply Kd.R_drew)); exact HO_5.out) hb); have n1_ := Aside0.mk (Kd.V_below (by (with_reducible repeat (first | apply Kd.V_alloc | apply Kd.V_drewN | apply Kd.V_drew)); exact HO_7.out) hb); have n2_ := Aside0.mk (below_step (by repeat (first | (with_reducible first | exact HB.out | apply below_alloc | apply pw_below_drewN | apply below_drew1) | exact HB.out)) hb); clear HO_5; clear HO_7; clear HB; have HO_5 := n0_; have HO_7 := n1_; have HB := n2_; clear n0_ n1_ n2_; (try clear hb); (try clear hb2); (try clear hk); (try clear hi)))
                                    go_roundg kj45
                                    case measure => have := HJ9.out; have := HK2.out; have := HJ45.out; omega
                                    case rel => exact ⟨(wrap64 (x15_2 + 1)), (by first | rfl | (simp; done) | (simp [*]; done)), H', ⟨by have := HJ9.out; have := HK2.out; have := HJ45.out; omega⟩, ⟨by (with_reducible repeat (first | apply Kd.R_alloc | apply Kd.R_drewN | apply Kd.R_drew)); exact HO_5.out⟩, ⟨by (with_reducible repeat (first | apply Kd.V_alloc | apply Kd.V_drewN | apply Kd.V_drew)); exact HO_7.out⟩, ⟨by repeat (first | (with_reducible first | exact HB.out | apply below_alloc | apply pw_below_drewN | apply below_drew1) | exact HB.out)⟩⟩
                                  · as_aux_lemma =>
                                    rw [if_neg c63] at H
                                    exact absurd H (by simp)
                                · replace c62 := Bool.eq_false_iff.mpr c62
                                  subst c62
                                  have H1 : (none) = some r := by rw [if_neg (show ¬ (false = true) by decide)] at H; exact H
                                  clear H
                                  have H := H1
                                  clear H1
                                  exact absurd H (by simp)
                              · replace c60 := Bool.eq_false_iff.mpr c60
                                subst c60
                                have H1 : (laws_FnCountedAnew.l0 kj45 l1 t291 t292 t295 t303 (wrap64 (x15_2 + 1))) = some r := by rw [if_neg (show ¬ (false = true) by decide)] at H; exact H
                                clear H
                                have H := H1
                                clear H1
                                have H' := Aside0.mk H
                                clear H
                                go_wp2
                                go_roundg kj45
                                case measure => have := HJ9.out; have := HK2.out; have := HJ45.out; omega
                                case rel => exact ⟨(wrap64 (x15_2 + 1)), (by first | rfl | (simp; done) | (simp [*]; done)), H', ⟨by have := HJ9.out; have := HK2.out; have := HJ45.out; omega⟩, ⟨by (with_reducible repeat (first | apply Kd.R_alloc | apply Kd.R_drewN | apply Kd.R_drew)); exact HO_5.out⟩, ⟨by (with_reducible repeat (first | apply Kd.V_alloc | apply Kd.V_drewN | apply Kd.V_drew)); exact HO_7.out⟩, ⟨by repeat (first | (with_reducible first | exact HB.out | apply below_alloc | apply pw_below_drewN | apply below_drew1) | exact HB.out)⟩⟩
                      · as_aux_lemma =>
                        rw [if_neg c43] at H
                        have c43b0 : decide (x15_2 ≤ t292) = false := decide_eq_false c43
                        clear c43
                        by_cases c65 : (t291.length : Int) > 0
                        · as_aux_lemma =>
                          rw [if_pos c65] at H
                          have c65b0 : decide (0 < (t291.length : Int)) = true := decide_eq_true c65
                          have c65b1 : decide (0 < t291.length) = true := decide_eq_true (by omega)
                          clear c65
                          obtain ⟨ji66, hji66⟩ : ∃ j_ : Int, (wrap64 ((t291.length : Int) - 1)) = j_ := ⟨_, rfl⟩
                          replace H : (if 0 ≤ (ji66) then (if (ji66) ≤ (t291.length : Int) then ((impl_LeftByCounting.f k2 (t291.take ((ji66) : Int).toNat) t292).bind fun bt326 => (if (ji66) < (t291.length : Int) then (if bt326.2 = true then (if (rd t291 (ji66)) = 0 then (none) else (if t303 = (wrap64 ((bt326.1.length : Int) - (wrap64 ((bt326.1.length : Int) / (rd t291 (ji66)))))) then (laws_FnCountedAnew.j3 k2 l1) else (none))) else (none)) else (none))) else (none)) else (none)) = some r := by first | (rw [hji66] at H; exact H) | (simp only [hji66] at H ⊢; exact H)
                          have hji66w : (IntKind.i64.wrap ((t291.length : Int) - 1)) = ji66 := (i64_w _).trans hji66
                          by_cases c67 : 0 ≤ (ji66)
                          · as_aux_lemma =>
                            rw [if_pos c67] at H
                            have c67b0 := eq_true c67
                            have c67b1 : decide (0 ≤ (ji66)) = true := decide_eq_true c67
                            clear c67
                            by_cases c68 : (ji66) ≤ (t291.length : Int)
                            · as_aux_lemma =>
                              rw [if_pos c68] at H
                              have c68b0 := eq_true c68
                              have c68b1 : decide ((ji66) ≤ (t291.length : Int)) = true := decide_eq_true c68
                              clear c68
                              obtain ⟨y322, hy322⟩ : ∃ y_ : List Int, y_ = (t291.take ((ji66) : Int).toNat) := ⟨_, rfl⟩
                              replace H : ((impl_LeftByCounting.f k2 y322 t292).bind fun bt326 => (if (ji66) < (t291.length : Int) then (if bt326.2 = true then (if (rd t291 (ji66)) = 0 then (none) else (if t303 = (wrap64 ((bt326.1.length : Int) - (wrap64 ((bt326.1.length : Int) / (rd t291 (ji66)))))) then (laws_FnCountedAnew.j3 k2 l1) else (none))) else (none)) else (none))) = some r := by first | (rw [hy322]; with_reducible exact H) | (have H2_ := (Option.bind_some _ _).symm.trans H; rw [hy322]; with_reducible exact H2_) | (have H2_ := (Option.bind_some _ _).symm.trans H; with_reducible exact H2_) | with_reducible exact H | (rw [hy322]; exact H) | exact H
                              have Ny322 := Aside0.mk hy322
                              clear hy322
                              replace H := Option.bind_eq_some_iff.mp H
                              obtain ⟨⟨t326, t329⟩, A690, H⟩ := H
                              replace H : (if (ji66) < (t291.length : Int) then (if t329 = true then (if (rd t291 (ji66)) = 0 then (none) else (if t303 = (wrap64 ((t326.length : Int) - (wrap64 ((t326.length : Int) / (rd t291 (ji66)))))) then (laws_FnCountedAnew.j3 k2 l1) else (none))) else (none)) else (none)) = some r := H
                              have A69 := Aside0.mk A690
                              clear A690
                              by_cases c70 : (ji66) < (t291.length : Int)
                              · as_aux_lemma =>
                                rw [if_pos c70] at H
                                have c70b0 : decide ((ji66) < (t291.length : Int)) = true := decide_eq_true c70
                                clear c70
                                by_cases c71 : t329 = true
                                · subst c71
                                  have H1 : (if (rd t291 (ji66)) = 0 then (none) else (if t303 = (wrap64 ((t326.length : Int) - (wrap64 ((t326.length : Int) / (rd t291 (ji66)))))) then (laws_FnCountedAnew.j3 k2 l1) else (none))) = some r := by rw [if_pos rfl] at H; exact H
                                  clear H
                                  have H := H1
                                  clear H1
                                  by_cases c72 : (rd t291 (ji66)) = 0
                                  · as_aux_lemma =>
                                    rw [if_pos c72] at H
                                    exact absurd H (by simp)
                                  · as_aux_lemma =>
                                    rw [if_neg c72] at H
                                    have c72b0 : ((rd t291 (ji66)) == 0) = false := beq_eq_false_iff_ne.mpr c72
                                    have c72b1 : ((rd t291 (ji66)) != 0) = true := bne_iff_ne.mpr c72
                                    by_cases c73 : t303 = (wrap64 ((t326.length : Int) - (wrap64 ((t326.length : Int) / (rd t291 (ji66))))))
                                    · as_aux_lemma =>
                                      rw [if_pos c73] at H
                                      have c73b0 : (t303 == (wrap64 ((t326.length : Int) - (wrap64 ((t326.length : Int) / (rd t291 (ji66))))))) = true := beq_iff_eq.mpr c73
                                      have c73b1 : (t303 != (wrap64 ((t326.length : Int) - (wrap64 ((t326.length : Int) / (rd t291 (ji66))))))) = false := bne_eq_false_iff_eq.mpr c73
                                      clear c73
                                      have H' := Aside0.mk H
                                      clear H
                                      have q74 : ((ji66) : Int) ≤ ((t291.length : Int) : Int) := of_decide_eq_true (by first | (with_reducible assumption) | assumption)
                                      obtain ⟨i074, hi074, _, hsz74, _⟩ := info_parts info3
                                      have hroom74 : t291.length ≤ co12 := (Kd.R_reads' HO_5.out).2.1
                                      have hC74 : Kd.C (Kd.int .i64) _ Ao12 t291.length t291 := (Kd.R_reads' HO_5.out).2.2
                                      have hcut74 := cut_to (P := Try.prog) 28 3 .i64 Try.underlying28 hi074 Ao12 t291.length co12 (ji66) (of_decide_eq_true (by first | (with_reducible assumption) | assumption)) q74 hroom74
                                      have hr74 := Kd.C_take (m := ((ji66) : Int).toNat) hC74 (by omega)
                                      have hy74 : y322.length = ((ji66) : Int).toNat := (by rw [Ny322.out, List.length_take]; omega)
                                      rw [← Ny322.out] at hr74
                                      rw [← hy74] at hcut74
                                      have HR325 := Aside0.mk hr74
                                      have HC325 := Aside0.mk (show y322.length ≤ co12 from by omega)
                                      clear hr74 hC74 hroom74 hi074 hsz74
                                      have KY74 := Aside0.mk hy74
                                      clear hy74
                                      have KL74 := Aside0.mk (show ((ji66) : Int).toNat ≤ t291.length from by omega)
                                      replace q74 := eq_true q74
                                      go_wp2_with (first | ((with_reducible refine gate_callee (f := 45) rfl ?_); refine goesL_ (some 200) rfl rfl Try.func45 (by kernel_rfl) rfl #[.slice Ao12 y322.length co12, .int .i64 t292] rfl (by (try simp only [List.map_toArray, List.map_cons, List.map_nil]); first | done | rfl | (simp only [List.length_drop, List.length_take]; rfl)) ?_; (with_reducible refine (impl_LeftByCounting.calls k2 _ _ y322 t292 t326 true _ ?side1 ?side2 A69.out).mono ?_); (case side1 => repeat (first | exact (by repeat (first | (with_reducible exact HR325.out) | (with_reducible refine Kd.C_alloc ?_ _) | (with_reducible refine Kd.C_drewN ?_ _) | (with_reducible refine Kd.C_drew ?_) | exact HR325.out)) | (with_reducible refine Kd.C_alloc ?_ _) | (with_reducible refine Kd.C_drewN ?_ _) | (with_reducible refine Kd.C_drew ?_))); (case side2 => exact HC325.out); rintro e w75 ⟨v327, rfl, ho0, hb⟩; refine ⟨_, rfl, ?_⟩; have n0_ := Aside0.mk (Kd.R_below (by (with_reducible repeat (first | apply Kd.R_alloc | apply Kd.R_drewN | apply Kd.R_drew)); exact HO_5.out) hb); have n1_ := Aside0.mk (Kd.V_below (by (with_reducible repeat (first | apply Kd.V_alloc | apply Kd.V_drewN | apply Kd.V_drew)); exact HO_7.out) hb); have n2_ := Aside0.mk (Kd.V_lower (Kd.V_mono (ok' := fun k_ => some k_ ≠ (.slice Ao12 t291.length co12 : Value).ownBlock) ho0 (fun k_ hk_ => (Kd.fresh' (Kd.R_lt (by (with_reducible repeat (first | apply Kd.R_alloc | apply Kd.R_drewN | apply Kd.R_drew)); exact HO_5.out)) k_ hk_))) (below_size (by repeat (first | (with_reducible first | exact HB.out | apply below_alloc | apply pw_below_drewN | apply below_drew1) | exact HB.out)))); have n3_ := Aside0.mk (Kd.C_below (by repeat (first | (with_reducible exact HR325.out) | (with_reducible refine Kd.C_alloc ?_ _) | (with_reducible refine Kd.C_drewN ?_ _) | (with_reducible refine Kd.C_drew ?_) | exact HR325.out)) hb); have n4_ := Aside0.mk (below_step (by repeat (first | (with_reducible first | exact HB.out | apply below_alloc | apply pw_below_drewN | apply below_drew1) | exact HB.out)) hb); clear HO_5; clear HO_7; clear HR325; clear HB; have HO_5 := n0_; have HO_7 := n1_; have HO328 := n2_; have HR325 := n3_; have HB := n4_; clear n0_ n1_ n2_ n3_ n4_; (try clear hb); (try clear hb2); (try clear hk); (try clear hi); (try clear ho0); have p330 : 0 ≤ ((ji66) : Int) := of_decide_eq_true (by first | (with_reducible assumption) | assumption); have q330 : (ji66) < (t291.length : Int) := of_decide_eq_true (by first | (with_reducible assumption) | assumption); obtain ⟨ad330, e330, hx330_0⟩ := Kd.at_int (Kd.R_reads' HO_5.out).2.2 (ji66) p330 q330; cases e330; replace p330 := eq_true p330; replace q330 := eq_true q330; obtain ⟨Ao76, co76, eo76⟩ := Kd.V_slice HO328.out; subst eo76))
                                      go_meet
                                      case rel => exact ⟨_, H', ⟨by have := HJ9.out; have := HK2.out; first | omega | exact Nat.le_refl _⟩, ⟨by repeat (first | (with_reducible first | exact HB.out | apply below_alloc | apply pw_below_drewN | apply below_drew1) | exact HB.out)⟩⟩
                                    · as_aux_lemma =>
                                      rw [if_neg c73] at H
                                      exact absurd H (by simp)
                                · replace c71 := Bool.eq_false_iff.mpr c71
                                  subst c71
                                  have H1 : (none) = some r := by rw [if_neg (show ¬ (false = true) by decide)] at H; exact H
                                  clear H
                                  have H := H1
                                  clear H1
                                  exact absurd H (by simp)
                              · as_aux_lemma =>
                                rw [if_neg c70] at H
                                exact absurd H (by simp)
                            · as_aux_lemma =>
                              rw [if_neg c68] at H
                              exact absurd H (by simp)
                          · as_aux_lemma =>
                            rw [if_neg c67] at H
                            exact absurd H (by simp)
                        · as_aux_lemma =>
                          rw [if_neg c65] at H
                          have c65b0 : decide (0 < (t291.length : Int)) = false := decide_eq_false c65
                          have c65b1 : decide (0 < t291.length) = false := decide_eq_false (by omega)
                          clear c65
                          have H' := Aside0.mk H
                          clear H
                          go_wp2
                          go_meet
                          case rel => exact ⟨_, H', ⟨by have := HJ9.out; have := HK2.out; first | omega | exact Nat.le_refl _⟩, ⟨by repeat (first | (with_reducible first | exact HB.out | apply below_alloc | apply pw_below_drewN | apply below_drew1) | exact HB.out)⟩⟩
                · replace c41 := Bool.eq_false_iff.mpr c41
                  subst c41
                  have H1 : (none) = some r := by rw [if_neg (show ¬ (false = true) by decide)] at H; exact H
                  clear H
                  have H := H1
                  clear H1
                  exact absurd H (by simp)
              · as_aux_lemma =>
                rw [if_neg c39] at H
                exact absurd H (by simp)
            · replace c38 := Bool.eq_false_iff.mpr c38
              subst c38
              have H1 : (laws_FnCountedAnew.j3 kj9 l1) = some r := by rw [if_neg (show ¬ (false = true) by decide)] at H; exact H
              clear H
              have H := H1
              clear H1
              have H' := Aside0.mk H
              clear H
              go_wp2
              go_meet
              case rel => exact ⟨_, H', ⟨by have := HJ9.out; first | omega | exact Nat.le_refl _⟩, ⟨by repeat (first | (with_reducible first | exact HB.out | apply below_alloc | apply pw_below_drewN | apply below_drew1) | exact HB.out)⟩⟩
          case rest =>
            as_aux_lemma =>
            clear HC37
            try clear c1
            try clear c2
            try clear p2
            try clear c3
            try clear p3
            try clear q3
            try clear hx3
            try clear c4
            try clear c5
            try clear c6
            try clear p6
            try clear c7
            try clear q7
            try clear c16
            try clear c16b0
            try clear c16b1
            try clear c16b2
            try clear c18
            try clear c19
            try clear c19b0
            try clear c19b1
            try clear c19b2
            try clear c20
            try clear c20b0
            try clear c20b1
            try clear c21
            try clear c21b0
            try clear c21b1
            try clear c21b2
            try clear c22
            try clear c24
            try clear p31
            try clear q31
            try clear hx31
            try clear p33
            try clear q33
            try clear hx33
            try clear c36
            try clear c38
            try clear c39
            try clear c39b0
            try clear c39b1
            try clear c41
            try clear c43
            try clear c43b0
            try clear c44
            try clear c45
            try clear c46
            try clear c47
            try clear c48
            try clear c49
            try clear c49b0
            try clear c49b1
            try clear c49b2
            try clear c51
            try clear c51b0
            try clear c51b1
            try clear c51b2
            try clear c52
            try clear c53
            try clear c53b0
            try clear c54
            try clear c54b0
            try clear c55
            try clear c56
            try clear c57
            try clear c57b0
            try clear c58
            try clear c58b0
            try clear c59
            try clear c60
            try clear c62
            try clear c63
            try clear c63b0
            try clear c63b1
            try clear p64
            try clear c65
            try clear c65b0
            try clear c65b1
            try clear c67
            try clear c67b0
            try clear c67b1
            try clear c68
            try clear c68b0
            try clear c68b1
            try clear c70
            try clear c70b0
            try clear c71
            try clear c72
            try clear c72b0
            try clear c72b1
            try clear c73
            try clear c73b0
            try clear c73b1
            try clear q74
            try clear hx319_0
            try clear hx330_0
            try clear p2
            try clear p3
            try clear p31
            try clear p319
            try clear p330
            try clear q3
            try clear q31
            try clear q319
            try clear q330
            try clear q74
            obtain ⟨kq, HA, HJ36, HB⟩ := hcut
            cases kq with
            | zero => exact absurd HA.out (by simp [laws_FnCountedAnew.j3])
            | succ kj36 =>
              have H := HA.out
              clear HA
              simp only [laws_FnCountedAnew.j3] at H
              replace H := Option.bind_eq_some_iff.mp H
              obtain ⟨⟨t331, t332⟩, A770, H⟩ := H
              replace H : ((impl_StepOfFall.f kj36 t331 t332).bind fun bt335 => ((spec_StepOfFall.f kj36 t331 t332).bind fun bt337 => ((impl_RankBehind.f kj36 t331 t332).bind fun bt339 => ((spec_RankBehind.f kj36 t331 t332).bind fun bt341 => ((spec_DrawNumberOfRank.f kj36 l1).bind fun bt343 => ((impl_NumberOfRank.f kj36 bt343.1 bt343.2).bind fun bt347 => ((spec_NumberOfRank.f kj36 bt343.1 bt343.2).bind fun bt349 => (if (bt335.2 != bt337.2) = true then (none) else (if bt335.1 = bt337.1 then (if (bt339.2 != bt341.2) = true then (none) else (if bt339.1 = bt341.1 then (if (bt347.2 != bt349.2) = true then (none) else (if bt347.1 = bt349.1 then (if bt347.2 = true then (if bt347.1 ≤ 10000 then ((impl_RankBehind.f kj36 bt343.1 bt347.1).bind fun bt351 => (if bt351.2 = true then (some (bt351.1 == bt343.2)) else (none))) else (some true)) else (some true)) else (none))) else (none))) else (none)))))))))) = some r := H
              have A77 := Aside0.mk A770
              clear A770
              replace H := Option.bind_eq_some_iff.mp H
              obtain ⟨⟨t335, t336⟩, A780, H⟩ := H
              replace H : ((spec_StepOfFall.f kj36 t331 t332).bind fun bt337 => ((impl_RankBehind.f kj36 t331 t332).bind fun bt339 => ((spec_RankBehind.f kj36 t331 t332).bind fun bt341 => ((spec_DrawNumberOfRank.f kj36 l1).bind fun bt343 => ((impl_NumberOfRank.f kj36 bt343.1 bt343.2).bind fun bt347 => ((spec_NumberOfRank.f kj36 bt343.1 bt343.2).bind fun bt349 => (if (t336 != bt337.2) = true then (none) else (if t335 = bt337.1 then (if (bt339.2 != bt341.2) = true then (none) else (if bt339.1 = bt341.1 then (if (bt347.2 != bt349.2) = true then (none) else (if bt347.1 = bt349.1 then (if bt347.2 = true then (if bt347.1 ≤ 10000 then ((impl_RankBehind.f kj36 bt343.1 bt347.1).bind fun bt351 => (if bt351.2 = true then (some (bt351.1 == bt343.2)) else (none))) else (some true)) else (some true)) else (none))) else (none))) else (none))))))))) = some r := H
              have A78 := Aside0.mk A780
              clear A780
              replace H := Option.bind_eq_some_iff.mp H
              obtain ⟨⟨t337, t338⟩, A790, H⟩ := H
              replace H : ((impl_RankBehind.f kj36 t331 t332).bind fun bt339 => ((spec_RankBehind.f kj36 t331 t332).bind fun bt341 => ((spec_DrawNumberOfRank.f kj36 l1).bind fun bt343 => ((impl_NumberOfRank.f kj36 bt343.1 bt343.2).bind fun bt347 => ((spec_NumberOfRank.f kj36 bt343.1 bt343.2).bind fun bt349 => (if (t336 != t338) = true then (none) else (if t335 = t337 then (if (bt339.2 != bt341.2) = true then (none) else (if bt339.1 = bt341.1 then (if (bt347.2 != bt349.2) = true then (none) else (if bt347.1 = bt349.1 then (if bt347.2 = true then (if bt347.1 ≤ 10000 then ((impl_RankBehind.f kj36 bt343.1 bt347.1).bind fun bt351 => (if bt351.2 = true then (some (bt351.1 == bt343.2)) else (none))) else (some true)) else (some true)) else (none))) else (none))) else (none)))))))) = some r := H
              have A79 := Aside0.mk A790
              clear A790
              replace H := Option.bind_eq_some_iff.mp H
              obtain ⟨⟨t339, t340⟩, A800, H⟩ := H
              replace H : ((spec_RankBehind.f kj36 t331 t332).bind fun bt341 => ((spec_DrawNumberOfRank.f kj36 l1).bind fun bt343 => ((impl_NumberOfRank.f kj36 bt343.1 bt343.2).bind fun bt347 => ((spec_NumberOfRank.f kj36 bt343.1 bt343.2).bind fun bt349 => (if (t336 != t338) = true then (none) else (if t335 = t337 then (if (t340 != bt341.2) = true then (none) else (if t339 = bt341.1 then (if (bt347.2 != bt349.2) = true then (none) else (if bt347.1 = bt349.1 then (if bt347.2 = true then (if bt347.1 ≤ 10000 then ((impl_RankBehind.f kj36 bt343.1 bt347.1).bind fun bt351 => (if bt351.2 = true then (some (bt351.1 == bt343.2)) else (none))) else (some true)) else (some true)) else (none))) else (none))) else (none))))))) = some r := H
              have A80 := Aside0.mk A800
              clear A800
              replace H := Option.bind_eq_some_iff.mp H
              obtain ⟨⟨t341, t342⟩, A810, H⟩ := H
              replace H : ((spec_DrawNumberOfRank.f kj36 l1).bind fun bt343 => ((impl_NumberOfRank.f kj36 bt343.1 bt343.2).bind fun bt347 => ((spec_NumberOfRank.f kj36 bt343.1 bt343.2).bind fun bt349 => (if (t336 != t338) = true then (none) else (if t335 = t337 then (if (t340 != t342) = true then (none) else (if t339 = t341 then (if (bt347.2 != bt349.2) = true then (none) else (if bt347.1 = bt349.1 then (if bt347.2 = true then (if bt347.1 ≤ 10000 then ((impl_RankBehind.f kj36 bt343.1 bt347.1).bind fun bt351 => (if bt351.2 = true then (some (bt351.1 == bt343.2)) else (none))) else (some true)) else (some true)) else (none))) else (none))) else (none)))))) = some r := H
              have A81 := Aside0.mk A810
              clear A810
              replace H := Option.bind_eq_some_iff.mp H
              obtain ⟨⟨t343, t344⟩, A820, H⟩ := H
              replace H : ((impl_NumberOfRank.f kj36 t343 t344).bind fun bt347 => ((spec_NumberOfRank.f kj36 t343 t344).bind fun bt349 => (if (t336 != t338) = true then (none) else (if t335 = t337 then (if (t340 != t342) = true then (none) else (if t339 = t341 then (if (bt347.2 != bt349.2) = true then (none) else (if bt347.1 = bt349.1 then (if bt347.2 = true then (if bt347.1 ≤ 10000 then ((impl_RankBehind.f kj36 t343 bt347.1).bind fun bt351 => (if bt351.2 = true then (some (bt351.1 == t344)) else (none))) else (some true)) else (some true)) else (none))) else (none))) else (none))))) = some r := H
              have A82 := Aside0.mk A820
              clear A820
              replace H := Option.bind_eq_some_iff.mp H
              obtain ⟨⟨t347, t348⟩, A830, H⟩ := H
              replace H : ((spec_NumberOfRank.f kj36 t343 t344).bind fun bt349 => (if (t336 != t338) = true then (none) else (if t335 = t337 then (if (t340 != t342) = true then (none) else (if t339 = t341 then (if (t348 != bt349.2) = true then (none) else (if t347 = bt349.1 then (if t348 = true then (if t347 ≤ 10000 then ((impl_RankBehind.f kj36 t343 t347).bind fun bt351 => (if bt351.2 = true then (some (bt351.1 == t344)) else (none))) else (some true)) else (some true)) else (none))) else (none))) else (none)))) = some r := H
              have A83 := Aside0.mk A830
              clear A830
              replace H := Option.bind_eq_some_iff.mp H
              obtain ⟨⟨t349, t350⟩, A840, H⟩ := H
              replace H : (if (t336 != t338) = true then (none) else (if t335 = t337 then (if (t340 != t342) = true then (none) else (if t339 = t341 then (if (t348 != t350) = true then (none) else (if t347 = t349 then (if t348 = true then (if t347 ≤ 10000 then ((impl_RankBehind.f kj36 t343 t347).bind fun bt351 => (if bt351.2 = true then (some (bt351.1 == t344)) else (none))) else (some true)) else (some true)) else (none))) else (none))) else (none))) = some r := H
              have A84 := Aside0.mk A840
              clear A840
              by_cases c85 : (t336 != t338) = true
              · as_aux_lemma =>
                rw [if_pos c85] at H
                exact absurd H (by simp)
              · as_aux_lemma =>
                rw [if_neg c85] at H
                have c85b0 : (t336 != t338) = false := by simpa using c85
                (try (have c85b1 : decide (t336 = t338) = true := by simpa using c85))
                (try (have c85b2 : (t336 == t338) = true := by simpa using c85))
                clear c85
                by_cases c86 : t335 = t337
                · as_aux_lemma =>
                  rw [if_pos c86] at H
                  have c86b0 : (t335 == t337) = true := beq_iff_eq.mpr c86
                  have c86b1 : (t335 != t337) = false := bne_eq_false_iff_eq.mpr c86
                  clear c86
                  by_cases c87 : (t340 != t342) = true
                  · as_aux_lemma =>
                    rw [if_pos c87] at H
                    exact absurd H (by simp)
                  · as_aux_lemma =>
                    rw [if_neg c87] at H
                    have c87b0 : (t340 != t342) = false := by simpa using c87
                    (try (have c87b1 : decide (t340 = t342) = true := by simpa using c87))
                    (try (have c87b2 : (t340 == t342) = true := by simpa using c87))
                    clear c87
                    by_cases c88 : t339 = t341
                    · as_aux_lemma =>
                      rw [if_pos c88] at H
                      have c88b0 : (t339 == t341) = true := beq_iff_eq.mpr c88
                      have c88b1 : (t339 != t341) = false := bne_eq_false_iff_eq.mpr c88
                      clear c88
                      by_cases c89 : (t348 != t350) = true
                      · as_aux_lemma =>
                        rw [if_pos c89] at H
                        exact absurd H (by simp)
                      · as_aux_lemma =>
                        rw [if_neg c89] at H
                        have c89b0 : (t348 != t350) = false := by simpa using c89
                        (try (have c89b1 : decide (t348 = t350) = true := by simpa using c89))
                        (try (have c89b2 : (t348 == t350) = true := by simpa using c89))
                        clear c89
                        by_cases c90 : t347 = t349
                        · as_aux_lemma =>
                          rw [if_pos c90] at H
                          have c90b0 : (t347 == t349) = true := beq_iff_eq.mpr c90
                          have c90b1 : (t347 != t349) = false := bne_eq_false_iff_eq.mpr c90
                          clear c90
                          by_cases c91 : t348 = true
                          · subst c91
                            have H1 : (if t347 ≤ 10000 then ((impl_RankBehind.f kj36 t343 t347).bind fun bt351 => (if bt351.2 = true then (some (bt351.1 == t344)) else (none))) else (some true)) = some r := by rw [if_pos rfl] at H; exact H
                            clear H
                            have H := H1
                            clear H1
                            by_cases c92 : t347 ≤ 10000
                            · as_aux_lemma =>
                              rw [if_pos c92] at H
                              have c92b0 : decide (t347 ≤ 10000) = true := decide_eq_true c92
                              clear c92
                              replace H := Option.bind_eq_some_iff.mp H
                              obtain ⟨⟨t351, t352⟩, A930, H⟩ := H
                              replace H : (if t352 = true then (some (t351 == t344)) else (none)) = some r := H
                              have A93 := Aside0.mk A930
                              clear A930
                              by_cases c94 : t352 = true
                              · subst c94
                                have H1 : (some (t351 == t344)) = some r := by rw [if_pos rfl] at H; exact H
                                clear H
                                have H := H1
                                clear H1
                                obtain rfl := Option.some.inj H
                                go_wp2_with (first | ((with_reducible refine gate_callee (f := 57) rfl ?_); refine goesL_ (some 224) rfl rfl Try.func57 (by kernel_rfl) rfl #[.slice A1 l1.length c1] rfl (by (try simp only [List.map_toArray, List.map_cons, List.map_nil]); first | done | rfl | (simp only [List.length_drop, List.length_take]; rfl)) ?_; (with_reducible refine (spec_DrawStepOfFall.calls kj36 _ _ l1 t331 t332 _ ?side1 ?side2 A77.out).mono ?_); (case side1 => repeat (first | exact (Kd.C_below HR1.out HB.out) | (with_reducible refine Kd.C_alloc ?_ _) | (with_reducible refine Kd.C_drewN ?_ _) | (with_reducible refine Kd.C_drew ?_))); (case side2 => exact HC1.out); rintro e w95 ⟨v333, rfl, ho0, hb⟩; refine ⟨_, rfl, ?_⟩; have n0_ := Aside0.mk (Kd.R_lower ho0 (below_size (by repeat (first | (with_reducible first | exact HB.out | apply below_alloc | apply pw_below_drewN | apply below_drew1) | exact HB.out)))); have n1_ := Aside0.mk (below_step (by repeat (first | (with_reducible first | exact HB.out | apply below_alloc | apply pw_below_drewN | apply below_drew1) | exact HB.out)) hb); clear HB; have HO334 := n0_; have HB := n1_; clear n0_ n1_; (try clear hb); (try clear hb2); (try clear hk); (try clear hi); (try clear ho0); obtain ⟨Ao96, co96, eo96⟩ := Kd.R_slice HO334.out; subst eo96) | ((with_reducible refine gate_callee (f := 53) rfl ?_); refine goesL_ (some 230) rfl rfl Try.func53 (by kernel_rfl) rfl #[.slice Ao96 t331.length co96, .int .i64 t332] rfl (by (try simp only [List.map_toArray, List.map_cons, List.map_nil]); first | done | rfl | (simp only [List.length_drop, List.length_take]; rfl)) ?_; (with_reducible refine (impl_StepOfFall.calls kj36 _ _ t331 t332 t335 t336 _ ?side1 ?side2 A78.out).mono ?_); (case side1 => repeat (first | exact (Kd.R_reads' HO334.out).2.2 | (with_reducible refine Kd.C_alloc ?_ _) | (with_reducible refine Kd.C_drewN ?_ _) | (with_reducible refine Kd.C_drew ?_))); (case side2 => exact (Kd.R_reads' HO334.out).2.1); rintro e w97 ⟨rfl, hb⟩; refine ⟨_, rfl, ?_⟩; have n0_ := Aside0.mk (Kd.R_below (by (with_reducible repeat (first | apply Kd.R_alloc | apply Kd.R_drewN | apply Kd.R_drew)); exact HO334.out) hb); have n1_ := Aside0.mk (below_step (by repeat (first | (with_reducible first | exact HB.out | apply below_alloc | apply pw_below_drewN | apply below_drew1) | exact HB.out)) hb); clear HO334; clear HB; have HO334 := n0_; have HB := n1_; clear n0_ n1_; (try clear hb); (try clear hb2); (try clear hk); (try clear hi)) | ((with_reducible refine gate_callee (f := 58) rfl ?_); refine goesL_ (some 236) rfl rfl Try.func58 (by kernel_rfl) rfl #[.slice Ao96 t331.length co96, .int .i64 t332] rfl (by (try simp only [List.map_toArray, List.map_cons, List.map_nil]); first | done | rfl | (simp only [List.length_drop, List.length_take]; rfl)) ?_; (with_reducible refine (spec_StepOfFall.calls kj36 _ _ t331 t332 t337 t338 _ ?side1 ?side2 A79.out).mono ?_); (case side1 => repeat (first | exact (Kd.R_reads' HO334.out).2.2 | (with_reducible refine Kd.C_alloc ?_ _) | (with_reducible refine Kd.C_drewN ?_ _) | (with_reducible refine Kd.C_drew ?_))); (case side2 => exact (Kd.R_reads' HO334.out).2.1); rintro e w' ⟨rfl, ⟨nd, rfl⟩⟩; refine ⟨_, rfl, ?_⟩) | ((with_reducible refine gate_callee (f := 54) rfl ?_); refine goesL_ (some 242) rfl rfl Try.func54 (by kernel_rfl) rfl #[.slice Ao96 t331.length co96, .int .i64 t332] rfl (by (try simp only [List.map_toArray, List.map_cons, List.map_nil]); first | done | rfl | (simp only [List.length_drop, List.length_take]; rfl)) ?_; (with_reducible refine (impl_RankBehind.calls kj36 _ _ t331 t332 t339 t340 _ ?side1 ?side2 A80.out).mono ?_); (case side1 => repeat (first | exact (Kd.R_reads' HO334.out).2.2 | (with_reducible refine Kd.C_alloc ?_ _) | (with_reducible refine Kd.C_drewN ?_ _) | (with_reducible refine Kd.C_drew ?_))); (case side2 => exact (Kd.R_reads' HO334.out).2.1); rintro e w98 ⟨rfl, hb⟩; refine ⟨_, rfl, ?_⟩; have n0_ := Aside0.mk (Kd.R_below (by (with_reducible repeat (first | apply Kd.R_alloc | apply Kd.R_drewN | apply Kd.R_drew)); exact HO334.out) hb); have n1_ := Aside0.mk (below_step (by repeat (first | (with_reducible first | exact HB.out | apply below_alloc | apply pw_below_drewN | apply below_drew1) | exact HB.out)) hb); clear HO334; clear HB; have HO334 := n0_; have HB := n1_; clear n0_ n1_; (try clear hb); (try clear hb2); (try clear hk); (try clear hi)) | ((with_reducible refine gate_callee (f := 59) rfl ?_); refine goesL_ (some 248) rfl rfl Try.func59 (by kernel_rfl) rfl #[.slice Ao96 t331.length co96, .int .i64 t332] rfl (by (try simp only [List.map_toArray, List.map_cons, List.map_nil]); first | done | rfl | (simp only [List.length_drop, List.length_take]; rfl)) ?_; (with_reducible refine (spec_RankBehind.calls kj36 _ _ t331 t332 t341 t342 _ ?side1 ?side2 A81.out).mono ?_); (case side1 => repeat (first | exact (Kd.R_reads' HO334.out).2.2 | (with_reducible refine Kd.C_alloc ?_ _) | (with_reducible refine Kd.C_drewN ?_ _) | (with_reducible refine Kd.C_drew ?_))); (case side2 => exact (Kd.R_reads' HO334.out).2.1); rintro e w' ⟨rfl, ⟨nd, rfl⟩⟩; refine ⟨_, rfl, ?_⟩) | ((with_reducible refine gate_callee (f := 60) rfl ?_); refine goesL_ (some 253) rfl rfl Try.func60 (by kernel_rfl) rfl #[.slice A1 l1.length c1] rfl (by (try simp only [List.map_toArray, List.map_cons, List.map_nil]); first | done | rfl | (simp only [List.length_drop, List.length_take]; rfl)) ?_; (with_reducible refine (spec_DrawNumberOfRank.calls kj36 _ _ l1 t343 t344 _ ?side1 ?side2 A82.out).mono ?_); (case side1 => repeat (first | exact (Kd.C_below HR1.out (by repeat (first | (with_reducible first | exact HB.out | apply below_alloc | apply pw_below_drewN | apply below_drew1) | exact HB.out))) | (with_reducible refine Kd.C_alloc ?_ _) | (with_reducible refine Kd.C_drewN ?_ _) | (with_reducible refine Kd.C_drew ?_))); (case side2 => exact HC1.out); rintro e w99 ⟨v345, rfl, ho0, hb⟩; refine ⟨_, rfl, ?_⟩; have n0_ := Aside0.mk (Kd.R_elder' (by (with_reducible repeat (first | apply Kd.R_alloc | apply Kd.R_drewN | apply Kd.R_drew)); exact HO334.out) (Kd.R_base ho0) hb); have n1_ := Aside0.mk (Kd.R_lower (Kd.R_new' ho0 (Kd.R_lt (by (with_reducible repeat (first | apply Kd.R_alloc | apply Kd.R_drewN | apply Kd.R_drew)); exact HO334.out))) (below_size (by repeat (first | (with_reducible first | exact HB.out | apply below_alloc | apply pw_below_drewN | apply below_drew1) | exact HB.out)))); have n2_ := Aside0.mk (below_step (by repeat (first | (with_reducible first | exact HB.out | apply below_alloc | apply pw_below_drewN | apply below_drew1) | exact HB.out)) hb); clear HO334; clear HB; have HO334 := n0_; have HO346 := n1_; have HB := n2_; clear n0_ n1_ n2_; (try clear hb); (try clear hb2); (try clear hk); (try clear hi); (try clear ho0); obtain ⟨Ao100, co100, eo100⟩ := Kd.R_slice HO346.out; subst eo100) | ((with_reducible refine gate_callee (f := 56) rfl ?_); refine goesL_ (some 259) rfl rfl Try.func56 (by kernel_rfl) rfl #[.slice Ao100 t343.length co100, .int .i64 t344] rfl (by (try simp only [List.map_toArray, List.map_cons, List.map_nil]); first | done | rfl | (simp only [List.length_drop, List.length_take]; rfl)) ?_; (with_reducible refine (impl_NumberOfRank.calls kj36 _ _ t343 t344 t347 true _ ?side1 ?side2 A83.out).mono ?_); (case side1 => repeat (first | exact (Kd.R_reads' HO346.out).2.2 | (with_reducible refine Kd.C_alloc ?_ _) | (with_reducible refine Kd.C_drewN ?_ _) | (with_reducible refine Kd.C_drew ?_))); (case side2 => exact (Kd.R_reads' HO346.out).2.1); rintro e w101 ⟨rfl, hb⟩; refine ⟨_, rfl, ?_⟩; have n0_ := Aside0.mk (Kd.R_below (by (with_reducible repeat (first | apply Kd.R_alloc | apply Kd.R_drewN | apply Kd.R_drew)); exact HO334.out) hb); have n1_ := Aside0.mk (Kd.R_below (by (with_reducible repeat (first | apply Kd.R_alloc | apply Kd.R_drewN | apply Kd.R_drew)); exact HO346.out) hb); have n2_ := Aside0.mk (below_step (by repeat (first | (with_reducible first | exact HB.out | apply below_alloc | apply pw_below_drewN | apply below_drew1) | exact HB.out)) hb); clear HO334; clear HO346; clear HB; have HO334 := n0_; have HO346 := n1_; have HB := n2_; clear n0_ n1_ n2_; (try clear hb); (try clear hb2); (try clear hk); (try clear hi)) | ((with_reducible refine gate_callee (f := 61) rfl ?_); refine goesL_ (some 265) rfl rfl Try.func61 (by kernel_rfl) rfl #[.slice Ao100 t343.length co100, .int .i64 t344] rfl (by (try simp only [List.map_toArray, List.map_cons, List.map_nil]); first | done | rfl | (simp only [List.length_drop, List.length_take]; rfl)) ?_; (with_reducible refine (spec_NumberOfRank.calls kj36 _ _ t343 t344 t349 t350 _ ?side1 ?side2 A84.out).mono ?_); (case side1 => repeat (first | exact (Kd.R_reads' HO346.out).2.2 | (with_reducible refine Kd.C_alloc ?_ _) | (with_reducible refine Kd.C_drewN ?_ _) | (with_reducible refine Kd.C_drew ?_))); (case side2 => exact (Kd.R_reads' HO346.out).2.1); rintro e w' ⟨rfl, ⟨nd, rfl⟩⟩; refine ⟨_, rfl, ?_⟩) | ((with_reducible refine gate_callee (f := 54) rfl ?_); refine goesL_ (some 304) rfl rfl Try.func54 (by kernel_rfl) rfl #[.slice Ao100 t343.length co100, .int .i64 t347] rfl (by (try simp only [List.map_toArray, List.map_cons, List.map_nil]); first | done | rfl | (simp only [List.length_drop, List.length_take]; rfl)) ?_; (with_reducible refine (impl_RankBehind.calls kj36 _ _ t343 t347 t351 true _ ?side1 ?side2 A93.out).mono ?_); (case side1 => repeat (first | exact (Kd.R_reads' HO346.out).2.2 | (with_reducible refine Kd.C_alloc ?_ _) | (with_reducible refine Kd.C_drewN ?_ _) | (with_reducible refine Kd.C_drew ?_))); (case side2 => exact (Kd.R_reads' HO346.out).2.1); rintro e w102 ⟨rfl, hb⟩; refine ⟨_, rfl, ?_⟩; have n0_ := Aside0.mk (Kd.R_below (by (with_reducible repeat (first | apply Kd.R_alloc | apply Kd.R_drewN | apply Kd.R_drew)); exact HO334.out) hb); have n1_ := Aside0.mk (Kd.R_below (by (with_reducible repeat (first | apply Kd.R_alloc | apply Kd.R_drewN | apply Kd.R_drew)); exact HO346.out) hb); have n2_ := Aside0.mk (below_step (by repeat (first | (with_reducible first | exact HB.out | apply below_alloc | apply pw_below_drewN | apply below_drew1) | exact HB.out)) hb); clear HO334; clear HO346; clear HB; have HO334 := n0_; have HO346 := n1_; have HB := n2_; clear n0_ n1_ n2_; (try clear hb); (try clear hb2); (try clear hk); (try clear hi)))
                                go_ret
                                exact ⟨by first | rfl | (simp [errW_none, errW_some] <;> rfl) | (simp [*, errW_none, errW_some] <;> rfl), by repeat (first | (with_reducible first | exact HB.out | apply below_alloc | apply pw_below_drewN | apply below_drew1) | exact HB.out)⟩
                              · replace c94 := Bool.eq_false_iff.mpr c94
                                subst c94
                                have H1 : (none) = some r := by rw [if_neg (show ¬ (false = true) by decide)] at H; exact H
                                clear H
                                have H := H1
                                clear H1
                                exact absurd H (by simp)
                            · as_aux_lemma =>
                              rw [if_neg c92] at H
                              have c92b0 : decide (t347 ≤ 10000) = false := decide_eq_false c92
                              clear c92
                              obtain rfl := Option.some.inj H
                              go_wp2_with (first | ((with_reducible refine gate_callee (f := 57) rfl ?_); refine goesL_ (some 224) rfl rfl Try.func57 (by kernel_rfl) rfl #[.slice A1 l1.length c1] rfl (by (try simp only [List.map_toArray, List.map_cons, List.map_nil]); first | done | rfl | (simp only [List.length_drop, List.length_take]; rfl)) ?_; (with_reducible refine (spec_DrawStepOfFall.calls kj36 _ _ l1 t331 t332 _ ?side1 ?side2 A77.out).mono ?_); (case side1 => repeat (first | exact (Kd.C_below HR1.out HB.out) | (with_reducible refine Kd.C_alloc ?_ _) | (with_reducible refine Kd.C_drewN ?_ _) | (with_reducible refine Kd.C_drew ?_))); (case side2 => exact HC1.out); rintro e w103 ⟨v333, rfl, ho0, hb⟩; refine ⟨_, rfl, ?_⟩; have n0_ := Aside0.mk (Kd.R_lower ho0 (below_size (by repeat (first | (with_reducible first | exact HB.out | apply below_alloc | apply pw_below_drewN | apply below_drew1) | exact HB.out)))); have n1_ := Aside0.mk (below_step (by repeat (first | (with_reducible first | exact HB.out | apply below_alloc | apply pw_below_drewN | apply below_drew1) | exact HB.out)) hb); clear HB; have HO334 := n0_; have HB := n1_; clear n0_ n1_; (try clear hb); (try clear hb2); (try clear hk); (try clear hi); (try clear ho0); obtain ⟨Ao104, co104, eo104⟩ := Kd.R_slice HO334.out; subst eo104) | ((with_reducible refine gate_callee (f := 53) rfl ?_); refine goesL_ (some 230) rfl rfl Try.func53 (by kernel_rfl) rfl #[.slice Ao104 t331.length co104, .int .i64 t332] rfl (by (try simp only [List.map_toArray, List.map_cons, List.map_nil]); first | done | rfl | (simp only [List.length_drop, List.length_take]; rfl)) ?_; (with_reducible refine (impl_StepOfFall.calls kj36 _ _ t331 t332 t335 t336 _ ?side1 ?side2 A78.out).mono ?_); (case side1 => repeat (first | exact (Kd.R_reads' HO334.out).2.2 | (with_reducible refine Kd.C_alloc ?_ _) | (with_reducible refine Kd.C_drewN ?_ _) | (with_reducible refine Kd.C_drew ?_))); (case side2 => exact (Kd.R_reads' HO334.out).2.1); rintro e w105 ⟨rfl, hb⟩; refine ⟨_, rfl, ?_⟩; have n0_ := Aside0.mk (Kd.R_below (by (with_reducible repeat (first | apply Kd.R_alloc | apply Kd.R_drewN | apply Kd.R_drew)); exact HO334.out) hb); have n1_ := Aside0.mk (below_step (by repeat (first | (with_reducible first | exact HB.out | apply below_alloc | apply pw_below_drewN | apply below_drew1) | exact HB.out)) hb); clear HO334; clear HB; have HO334 := n0_; have HB := n1_; clear n0_ n1_; (try clear hb); (try clear hb2); (try clear hk); (try clear hi)) | ((with_reducible refine gate_callee (f := 58) rfl ?_); refine goesL_ (some 236) rfl rfl Try.func58 (by kernel_rfl) rfl #[.slice Ao104 t331.length co104, .int .i64 t332] rfl (by (try simp only [List.map_toArray, List.map_cons, List.map_nil]); first | done | rfl | (simp only [List.length_drop, List.length_take]; rfl)) ?_; (with_reducible refine (spec_StepOfFall.calls kj36 _ _ t331 t332 t337 t338 _ ?side1 ?side2 A79.out).mono ?_); (case side1 => repeat (first | exact (Kd.R_reads' HO334.out).2.2 | (with_reducible refine Kd.C_alloc ?_ _) | (with_reducible refine Kd.C_drewN ?_ _) | (with_reducible refine Kd.C_drew ?_))); (case side2 => exact (Kd.R_reads' HO334.out).2.1); rintro e w' ⟨rfl, ⟨nd, rfl⟩⟩; refine ⟨_, rfl, ?_⟩) | ((with_reducible refine gate_callee (f := 54) rfl ?_); refine goesL_ (some 242) rfl rfl Try.func54 (by kernel_rfl) rfl #[.slice Ao104 t331.length co104, .int .i64 t332] rfl (by (try simp only [List.map_toArray, List.map_cons, List.map_nil]); first | done | rfl | (simp only [List.length_drop, List.length_take]; rfl)) ?_; (with_reducible refine (impl_RankBehind.calls kj36 _ _ t331 t332 t339 t340 _ ?side1 ?side2 A80.out).mono ?_); (case side1 => repeat (first | exact (Kd.R_reads' HO334.out).2.2 | (with_reducible refine Kd.C_alloc ?_ _) | (with_reducible refine Kd.C_drewN ?_ _) | (with_reducible refine Kd.C_drew ?_))); (case side2 => exact (Kd.R_reads' HO334.out).2.1); rintro e w106 ⟨rfl, hb⟩; refine ⟨_, rfl, ?_⟩; have n0_ := Aside0.mk (Kd.R_below (by (with_reducible repeat (first | apply Kd.R_alloc | apply Kd.R_drewN | apply Kd.R_drew)); exact HO334.out) hb); have n1_ := Aside0.mk (below_step (by repeat (first | (with_reducible first | exact HB.out | apply below_alloc | apply pw_below_drewN | apply below_drew1) | exact HB.out)) hb); clear HO334; clear HB; have HO334 := n0_; have HB := n1_; clear n0_ n1_; (try clear hb); (try clear hb2); (try clear hk); (try clear hi)) | ((with_reducible refine gate_callee (f := 59) rfl ?_); refine goesL_ (some 248) rfl rfl Try.func59 (by kernel_rfl) rfl #[.slice Ao104 t331.length co104, .int .i64 t332] rfl (by (try simp only [List.map_toArray, List.map_cons, List.map_nil]); first | done | rfl | (simp only [List.length_drop, List.length_take]; rfl)) ?_; (with_reducible refine (spec_RankBehind.calls kj36 _ _ t331 t332 t341 t342 _ ?side1 ?side2 A81.out).mono ?_); (case side1 => repeat (first | exact (Kd.R_reads' HO334.out).2.2 | (with_reducible refine Kd.C_alloc ?_ _) | (with_reducible refine Kd.C_drewN ?_ _) | (with_reducible refine Kd.C_drew ?_))); (case side2 => exact (Kd.R_reads' HO334.out).2.1); rintro e w' ⟨rfl, ⟨nd, rfl⟩⟩; refine ⟨_, rfl, ?_⟩) | ((with_reducible refine gate_callee (f := 60) rfl ?_); refine goesL_ (some 253) rfl rfl Try.func60 (by kernel_rfl) rfl #[.slice A1 l1.length c1] rfl (by (try simp only [List.map_toArray, List.map_cons, List.map_nil]); first | done | rfl | (simp only [List.length_drop, List.length_take]; rfl)) ?_; (with_reducible refine (spec_DrawNumberOfRank.calls kj36 _ _ l1 t343 t344 _ ?side1 ?side2 A82.out).mono ?_); (case side1 => repeat (first | exact (Kd.C_below HR1.out (by repeat (first | (with_reducible first | exact HB.out | apply below_alloc | apply pw_below_drewN | apply below_drew1) | exact HB.out))) | (with_reducible refine Kd.C_alloc ?_ _) | (with_reducible refine Kd.C_drewN ?_ _) | (with_reducible refine Kd.C_drew ?_))); (case side2 => exact HC1.out); rintro e w107 ⟨v345, rfl, ho0, hb⟩; refine ⟨_, rfl, ?_⟩; have n0_ := Aside0.mk (Kd.R_elder' (by (with_reducible repeat (first | apply Kd.R_alloc | apply Kd.R_drewN | apply Kd.R_drew)); exact HO334.out) (Kd.R_base ho0) hb); have n1_ := Aside0.mk (Kd.R_lower (Kd.R_new' ho0 (Kd.R_lt (by (with_reducible repeat (first | apply Kd.R_alloc | apply Kd.R_drewN | apply Kd.R_drew)); exact HO334.out))) (below_size (by repeat (first | (with_reducible first | exact HB.out | apply below_alloc | apply pw_below_drewN | apply below_drew1) | exact HB.out)))); have n2_ := Aside0.mk (below_step (by repeat (first | (with_reducible first | exact HB.out | apply below_alloc | apply pw_below_drewN | apply below_drew1) | exact HB.out)) hb); clear HO334; clear HB; have HO334 := n0_; have HO346 := n1_; have HB := n2_; clear n0_ n1_ n2_; (try clear hb); (try clear hb2); (try clear hk); (try clear hi); (try clear ho0); obtain ⟨Ao108, co108, eo108⟩ := Kd.R_slice HO346.out; subst eo108) | ((with_reducible refine gate_callee (f := 56) rfl ?_); refine goesL_ (some 259) rfl rfl Try.func56 (by kernel_rfl) rfl #[.slice Ao108 t343.length co108, .int .i64 t344] rfl (by (try simp only [List.map_toArray, List.map_cons, List.map_nil]); first | done | rfl | (simp only [List.length_drop, List.length_take]; rfl)) ?_; (with_reducible refine (impl_NumberOfRank.calls kj36 _ _ t343 t344 t347 true _ ?side1 ?side2 A83.out).mono ?_); (case side1 => repeat (first | exact (Kd.R_reads' HO346.out).2.2 | (with_reducible refine Kd.C_alloc ?_ _) | (with_reducible refine Kd.C_drewN ?_ _) | (with_reducible refine Kd.C_drew ?_))); (case side2 => exact (Kd.R_reads' HO346.out).2.1); rintro e w109 ⟨rfl, hb⟩; refine ⟨_, rfl, ?_⟩; have n0_ := Aside0.mk (Kd.R_below (by (with_reducible repeat (first | apply Kd.R_alloc | apply Kd.R_drewN | apply Kd.R_drew)); exact HO334.out) hb); have n1_ := Aside0.mk (Kd.R_below (by (with_reducible repeat (first | apply Kd.R_alloc | apply Kd.R_drewN | apply Kd.R_drew)); exact HO346.out) hb); have n2_ := Aside0.mk (below_step (by repeat (first | (with_reducible first | exact HB.out | apply below_alloc | apply pw_below_drewN | apply below_drew1) | exact HB.out)) hb); clear HO334; clear HO346; clear HB; have HO334 := n0_; have HO346 := n1_; have HB := n2_; clear n0_ n1_ n2_; (try clear hb); (try clear hb2); (try clear hk); (try clear hi)) | ((with_reducible refine gate_callee (f := 61) rfl ?_); refine goesL_ (some 265) rfl rfl Try.func61 (by kernel_rfl) rfl #[.slice Ao108 t343.length co108, .int .i64 t344] rfl (by (try simp only [List.map_toArray, List.map_cons, List.map_nil]); first | done | rfl | (simp only [List.length_drop, List.length_take]; rfl)) ?_; (with_reducible refine (spec_NumberOfRank.calls kj36 _ _ t343 t344 t349 t350 _ ?side1 ?side2 A84.out).mono ?_); (case side1 => repeat (first | exact (Kd.R_reads' HO346.out).2.2 | (with_reducible refine Kd.C_alloc ?_ _) | (with_reducible refine Kd.C_drewN ?_ _) | (with_reducible refine Kd.C_drew ?_))); (case side2 => exact (Kd.R_reads' HO346.out).2.1); rintro e w' ⟨rfl, ⟨nd, rfl⟩⟩; refine ⟨_, rfl, ?_⟩))
                              go_ret
                              exact ⟨by first | rfl | (simp [errW_none, errW_some] <;> rfl) | (simp [*, errW_none, errW_some] <;> rfl), by repeat (first | (with_reducible first | exact HB.out | apply below_alloc | apply pw_below_drewN | apply below_drew1) | exact HB.out)⟩
                          · replace c91 := Bool.eq_false_iff.mpr c91
                            subst c91
                            have H1 : (some true) = some r := by rw [if_neg (show ¬ (false = true) by decide)] at H; exact H
                            clear H
                            have H := H1
                            clear H1
                            obtain rfl := Option.some.inj H
                            go_wp2_with (first | ((with_reducible refine gate_callee (f := 57) rfl ?_); refine goesL_ (some 224) rfl rfl Try.func57 (by kernel_rfl) rfl #[.slice A1 l1.length c1] rfl (by (try simp only [List.map_toArray, List.map_cons, List.map_nil]); first | done | rfl | (simp only [List.length_drop, List.length_take]; rfl)) ?_; (with_reducible refine (spec_DrawStepOfFall.calls kj36 _ _ l1 t331 t332 _ ?side1 ?side2 A77.out).mono ?_); (case side1 => repeat (first | exact (Kd.C_below HR1.out HB.out) | (with_reducible refine Kd.C_alloc ?_ _) | (with_reducible refine Kd.C_drewN ?_ _) | (with_reducible refine Kd.C_drew ?_))); (case side2 => exact HC1.out); rintro e w110 ⟨v333, rfl, ho0, hb⟩; refine ⟨_, rfl, ?_⟩; have n0_ := Aside0.mk (Kd.R_lower ho0 (below_size (by repeat (first | (with_reducible first | exact HB.out | apply below_alloc | apply pw_below_drewN | apply below_drew1) | exact HB.out)))); have n1_ := Aside0.mk (below_step (by repeat (first | (with_reducible first | exact HB.out | apply below_alloc | apply pw_below_drewN | apply below_drew1) | exact HB.out)) hb); clear HB; have HO334 := n0_; have HB := n1_; clear n0_ n1_; (try clear hb); (try clear hb2); (try clear hk); (try clear hi); (try clear ho0); obtain ⟨Ao111, co111, eo111⟩ := Kd.R_slice HO334.out; subst eo111) | ((with_reducible refine gate_callee (f := 53) rfl ?_); refine goesL_ (some 230) rfl rfl Try.func53 (by kernel_rfl) rfl #[.slice Ao111 t331.length co111, .int .i64 t332] rfl (by (try simp only [List.map_toArray, List.map_cons, List.map_nil]); first | done | rfl | (simp only [List.length_drop, List.length_take]; rfl)) ?_; (with_reducible refine (impl_StepOfFall.calls kj36 _ _ t331 t332 t335 t336 _ ?side1 ?side2 A78.out).mono ?_); (case side1 => repeat (first | exact (Kd.R_reads' HO334.out).2.2 | (with_reducible refine Kd.C_alloc ?_ _) | (with_reducible refine Kd.C_drewN ?_ _) | (with_reducible refine Kd.C_drew ?_))); (case side2 => exact (Kd.R_reads' HO334.out).2.1); rintro e w112 ⟨rfl, hb⟩; refine ⟨_, rfl, ?_⟩; have n0_ := Aside0.mk (Kd.R_below (by (with_reducible repeat (first | apply Kd.R_alloc | apply Kd.R_drewN | apply Kd.R_drew)); exact HO334.out) hb); have n1_ := Aside0.mk (below_step (by repeat (first | (with_reducible first | exact HB.out | apply below_alloc | apply pw_below_drewN | apply below_drew1) | exact HB.out)) hb); clear HO334; clear HB; have HO334 := n0_; have HB := n1_; clear n0_ n1_; (try clear hb); (try clear hb2); (try clear hk); (try clear hi)) | ((with_reducible refine gate_callee (f := 58) rfl ?_); refine goesL_ (some 236) rfl rfl Try.func58 (by kernel_rfl) rfl #[.slice Ao111 t331.length co111, .int .i64 t332] rfl (by (try simp only [List.map_toArray, List.map_cons, List.map_nil]); first | done | rfl | (simp only [List.length_drop, List.length_take]; rfl)) ?_; (with_reducible refine (spec_StepOfFall.calls kj36 _ _ t331 t332 t337 t338 _ ?side1 ?side2 A79.out).mono ?_); (case side1 => repeat (first | exact (Kd.R_reads' HO334.out).2.2 | (with_reducible refine Kd.C_alloc ?_ _) | (with_reducible refine Kd.C_drewN ?_ _) | (with_reducible refine Kd.C_drew ?_))); (case side2 => exact (Kd.R_reads' HO334.out).2.1); rintro e w' ⟨rfl, ⟨nd, rfl⟩⟩; refine ⟨_, rfl, ?_⟩) | ((with_reducible refine gate_callee (f := 54) rfl ?_); refine goesL_ (some 242) rfl rfl Try.func54 (by kernel_rfl) rfl #[.slice Ao111 t331.length co111, .int .i64 t332] rfl (by (try simp only [List.map_toArray, List.map_cons, List.map_nil]); first | done | rfl | (simp only [List.length_drop, List.length_take]; rfl)) ?_; (with_reducible refine (impl_RankBehind.calls kj36 _ _ t331 t332 t339 t340 _ ?side1 ?side2 A80.out).mono ?_); (case side1 => repeat (first | exact (Kd.R_reads' HO334.out).2.2 | (with_reducible refine Kd.C_alloc ?_ _) | (with_reducible refine Kd.C_drewN ?_ _) | (with_reducible refine Kd.C_drew ?_))); (case side2 => exact (Kd.R_reads' HO334.out).2.1); rintro e w113 ⟨rfl, hb⟩; refine ⟨_, rfl, ?_⟩; have n0_ := Aside0.mk (Kd.R_below (by (with_reducible repeat (first | apply Kd.R_alloc | apply Kd.R_drewN | apply Kd.R_drew)); exact HO334.out) hb); have n1_ := Aside0.mk (below_step (by repeat (first | (with_reducible first | exact HB.out | apply below_alloc | apply pw_below_drewN | apply below_drew1) | exact HB.out)) hb); clear HO334; clear HB; have HO334 := n0_; have HB := n1_; clear n0_ n1_; (try clear hb); (try clear hb2); (try clear hk); (try clear hi)) | ((with_reducible refine gate_callee (f := 59) rfl ?_); refine goesL_ (some 248) rfl rfl Try.func59 (by kernel_rfl) rfl #[.slice Ao111 t331.length co111, .int .i64 t332] rfl (by (try simp only [List.map_toArray, List.map_cons, List.map_nil]); first | done | rfl | (simp only [List.length_drop, List.length_take]; rfl)) ?_; (with_reducible refine (spec_RankBehind.calls kj36 _ _ t331 t332 t341 t342 _ ?side1 ?side2 A81.out).mono ?_); (case side1 => repeat (first | exact (Kd.R_reads' HO334.out).2.2 | (with_reducible refine Kd.C_alloc ?_ _) | (with_reducible refine Kd.C_drewN ?_ _) | (with_reducible refine Kd.C_drew ?_))); (case side2 => exact (Kd.R_reads' HO334.out).2.1); rintro e w' ⟨rfl, ⟨nd, rfl⟩⟩; refine ⟨_, rfl, ?_⟩) | ((with_reducible refine gate_callee (f := 60) rfl ?_); refine goesL_ (some 253) rfl rfl Try.func60 (by kernel_rfl) rfl #[.slice A1 l1.length c1] rfl (by (try simp only [List.map_toArray, List.map_cons, List.map_nil]); first | done | rfl | (simp only [List.length_drop, List.length_take]; rfl)) ?_; (with_reducible refine (spec_DrawNumberOfRank.calls kj36 _ _ l1 t343 t344 _ ?side1 ?side2 A82.out).mono ?_); (case side1 => repeat (first | exact (Kd.C_below HR1.out (by repeat (first | (with_reducible first | exact HB.out | apply below_alloc | apply pw_below_drewN | apply below_drew1) | exact HB.out))) | (with_reducible refine Kd.C_alloc ?_ _) | (with_reducible refine Kd.C_drewN ?_ _) | (with_reducible refine Kd.C_drew ?_))); (case side2 => exact HC1.out); rintro e w114 ⟨v345, rfl, ho0, hb⟩; refine ⟨_, rfl, ?_⟩; have n0_ := Aside0.mk (Kd.R_elder' (by (with_reducible repeat (first | apply Kd.R_alloc | apply Kd.R_drewN | apply Kd.R_drew)); exact HO334.out) (Kd.R_base ho0) hb); have n1_ := Aside0.mk (Kd.R_lower (Kd.R_new' ho0 (Kd.R_lt (by (with_reducible repeat (first | apply Kd.R_alloc | apply Kd.R_drewN | apply Kd.R_drew)); exact HO334.out))) (below_size (by repeat (first | (with_reducible first | exact HB.out | apply below_alloc | apply pw_below_drewN | apply below_drew1) | exact HB.out)))); have n2_ := Aside0.mk (below_step (by repeat (first | (with_reducible first | exact HB.out | apply below_alloc | apply pw_below_drewN | apply below_drew1) | exact HB.out)) hb); clear HO334; clear HB; have HO334 := n0_; have HO346 := n1_; have HB := n2_; clear n0_ n1_ n2_; (try clear hb); (try clear hb2); (try clear hk); (try clear hi); (try clear ho0); obtain ⟨Ao115, co115, eo115⟩ := Kd.R_slice HO346.out; subst eo115) | ((with_reducible refine gate_callee (f := 56) rfl ?_); refine goesL_ (some 259) rfl rfl Try.func56 (by kernel_rfl) rfl #[.slice Ao115 t343.length co115, .int .i64 t344] rfl (by (try simp only [List.map_toArray, List.map_cons, List.map_nil]); first | done | rfl | (simp only [List.length_drop, List.length_take]; rfl)) ?_; (with_reducible refine (impl_NumberOfRank.calls kj36 _ _ t343 t344 t347 false _ ?side1 ?side2 A83.out).mono ?_); (case side1 => repeat (first | exact (Kd.R_reads' HO346.out).2.2 | (with_reducible refine Kd.C_alloc ?_ _) | (with_reducible refine Kd.C_drewN ?_ _) | (with_reducible refine Kd.C_drew ?_))); (case side2 => exact (Kd.R_reads' HO346.out).2.1); rintro e w116 ⟨rfl, hb⟩; refine ⟨_, rfl, ?_⟩; have n0_ := Aside0.mk (Kd.R_below (by (with_reducible repeat (first | apply Kd.R_alloc | apply Kd.R_drewN | apply Kd.R_drew)); exact HO334.out) hb); have n1_ := Aside0.mk (Kd.R_below (by (with_reducible repeat (first | apply Kd.R_alloc | apply Kd.R_drewN | apply Kd.R_drew)); exact HO346.out) hb); have n2_ := Aside0.mk (below_step (by repeat (first | (with_reducible first | exact HB.out | apply below_alloc | apply pw_below_drewN | apply below_drew1) | exact HB.out)) hb); clear HO334; clear HO346; clear HB; have HO334 := n0_; have HO346 := n1_; have HB := n2_; clear n0_ n1_ n2_; (try clear hb); (try clear hb2); (try clear hk); (try clear hi)) | ((with_reducible refine gate_callee (f := 61) rfl ?_); refine goesL_ (some 265) rfl rfl Try.func61 (by kernel_rfl) rfl #[.slice Ao115 t343.length co115, .int .i64 t344] rfl (by (try simp only [List.map_toArray, List.map_cons, List.map_nil]); first | done | rfl | (simp only [List.length_drop, List.length_take]; rfl)) ?_; (with_reducible refine (spec_NumberOfRank.calls kj36 _ _ t343 t344 t349 t350 _ ?side1 ?side2 A84.out).mono ?_); (case side1 => repeat (first | exact (Kd.R_reads' HO346.out).2.2 | (with_reducible refine Kd.C_alloc ?_ _) | (with_reducible refine Kd.C_drewN ?_ _) | (with_reducible refine Kd.C_drew ?_))); (case side2 => exact (Kd.R_reads' HO346.out).2.1); rintro e w' ⟨rfl, ⟨nd, rfl⟩⟩; refine ⟨_, rfl, ?_⟩))
                            go_ret
                            exact ⟨by first | rfl | (simp [errW_none, errW_some] <;> rfl) | (simp [*, errW_none, errW_some] <;> rfl), by repeat (first | (with_reducible first | exact HB.out | apply below_alloc | apply pw_below_drewN | apply below_drew1) | exact HB.out)⟩
                        · as_aux_lemma =>
                          rw [if_neg c90] at H
                          exact absurd H (by simp)
                    · as_aux_lemma =>
                      rw [if_neg c88] at H
                      exact absurd H (by simp)
                · as_aux_lemma =>
                  rw [if_neg c86] at H
                  exact absurd H (by simp)

/-- THE ONE PURE STATEMENT of laws_FnCountedAnew: yours. -/
def laws_FnCountedAnew.Pure : Prop := ∀ (l0 : List Int) (l1 : List Int), l0.length ≤ maxLen → l0.length * 1 ≤ 140737488351232 → (∀ x ∈ l0, (Lit.int .u8 x).wf = true) → l1.length ≤ maxLen → l1.length * 1 ≤ 140737488351232 → (∀ x ∈ l1, (Lit.int .u8 x).wf = true) → ∃ k, laws_FnCountedAnew.f k l0 l1 = some true
theorem laws_FnCountedAnew.walk (P : laws_FnCountedAnew.Pure) (a0 : Option Addr) (len0 cap0 : Nat) (z0 : List Int) (a1 : Option Addr) (len1 cap1 : Nat) (z1 : List Int) (w : World) (w0 : (a0 = none ∧ len0 = 0 ∧ cap0 = 0 ∧ z0 = []) ∨ ∃ x, a0 = some x ∧ len0 ≤ cap0 ∧ cap0 ≤ maxLen ∧ z0.length = cap0 ∧ (∀ i, i < z0.length → w.cell? (x.add i) = some (.int .u8 (z0.getD i 0))) ∧ ∀ n ∈ z0, (Lit.int .u8 n).wf = true) (y0 : len0 * 1 ≤ 140737488351232) (w1 : (a1 = none ∧ len1 = 0 ∧ cap1 = 0 ∧ z1 = []) ∨ ∃ x, a1 = some x ∧ len1 ≤ cap1 ∧ cap1 ≤ maxLen ∧ z1.length = cap1 ∧ (∀ i, i < z1.length → w.cell? (x.add i) = some (.int .u8 (z1.getD i 0))) ∧ ∀ n ∈ z1, (Lit.int .u8 n).wf = true) (y1 : len1 * 1 ≤ 140737488351232) :
    Calls Try.prog 7 #[.slice a0 len0 cap0, .slice a1 len1 cap1] w fun e w' => e = .returned (.bool true) ∧ Below w.heap.size w w' := by
  obtain ⟨l0, rfl, hr0, hm0, hw0, hc0⟩ := ReadsInt.ofRowC w0
  obtain ⟨l1, rfl, hr1, hm1, hw1, hc1⟩ := ReadsInt.ofRowC w1
  obtain ⟨k, h⟩ := P l0 l1 hm0 y0 hw0 hm1 y1 hw1
  refine (laws_FnCountedAnew.calls k _ _ l0 _ _ l1 true w (Kd.C_of_reads (d := (0 : Int)) (h1 := fun _ => rfl) hr0) hc0 (Kd.C_of_reads (d := (0 : Int)) (h1 := fun _ => rfl) hr1) hc1 h).mono ?_
  rintro e w' ⟨rfl, hd⟩
  exact ⟨rfl, hd⟩

end Go.Proofs.Ytjonkpeoiecchaa.P
