-- Printed for this claim by a program of this session, out of the translation. Lean checks it.
import Derived.Test.YtjonkpeoiecchaaPx0
import Derived.Test.YtjonkpeoiecchaaPx3
import Derived.Test.YtjonkpeoiecchaaPx5
import Derived.Test.YtjonkpeoiecchaaPx6
import Derived.Test.YtjonkpeoiecchaaPx7
import Derived.Test.YtjonkpeoiecchaaPx8
import Derived.Test.YtjonkpeoiecchaaPx9
import Derived.Test.YtjonkpeoiecchaaPx11
import Derived.Test.YtjonkpeoiecchaaPx14
import Derived.Test.YtjonkpeoiecchaaPx15
import Derived.Test.YtjonkpeoiecchaaPx16
import Derived.Test.YtjonkpeoiecchaaPx18
import Derived.Test.YtjonkpeoiecchaaPx19
namespace Go.Proofs.Ytjonkpeoiecchaa.P
open Go.RowKit Go.Proofs.YtjonkpeoiecchaaW.PrintWords Go.Proofs.YtjonkpeoiecchaaW.PrintLast Go.Proofs.YtjonkpeoiecchaaW.PrintMore
attribute [local go_sem] max2_int min2_int max_two min_two max_three min_three max_four min_four   -- for this text's walks alone
set_option linter.unusedVariables false
set_option linter.unusedSimpArgs false

/-! ### laws_FnSumsOfPrimes: function 4 -/
mutual
def laws_FnSumsOfPrimes.j0 : Nat → List Int → Int → Int → Int → Bool → Int → Bool → Option (Bool)
  | 0, _, _, _, _, _, _, _ => none
  | k + 1, x1, x5, x6, x7, x8, x12, x118 => if x118 = true then (some false) else (if x8 = true then ((impl_IsPrime.f k x6).bind fun bt311 => ((impl_IsPrime.f k x7).bind fun bt313 => (if (wrap64 (x6 + x7)) = x5 then (if x6 > x7 then (some false) else (if bt311.2 = true then (if bt311.1 = true then (if bt313.2 = true then (if bt313.1 = true then (if (Int.tmod x5 2) = 1 then (if x6 = 2 then (if x12 = 1 then (laws_FnSumsOfPrimes.j1 k x1) else (some false)) else (some false)) else (laws_FnSumsOfPrimes.j1 k x1)) else (some false)) else (some false)) else (some false)) else (some false))) else (some false)))) else (laws_FnSumsOfPrimes.j1 k x1))
def laws_FnSumsOfPrimes.j1 : Nat → List Int → Option (Bool)
  | 0, _ => none
  | k + 1, x1 => (spec_DrawTwinsUpTo.f x1).bind fun t315 => ((impl_TwinsUpTo.f k t315).bind fun bt316 => ((spec_TwinsUpTo.f k t315).bind fun bt320 => ((impl_CrossersUpTo.f k t315).bind fun bt324 => ((spec_CrossersUpTo.f k t315).bind fun bt328 => ((spec_DrawSmoothUpTo.f x1).bind fun bt332 => ((impl_SmoothUpTo.f k bt332.1 bt332.2).bind fun bt334 => ((spec_SmoothUpTo.f k bt332.1 bt332.2).bind fun bt338 => (if (bt316.2 != bt320.2) = true then (laws_FnSumsOfPrimes.j2 k t315 bt316.1 bt324.1 bt332.1 bt332.2 bt334.1 bt334.2 true) else ((laws_gSame.f k bt316.1 bt320.1).bind fun t342 => (if t342 = true then (if (bt324.2 != bt328.2) = true then (laws_FnSumsOfPrimes.j2 k t315 bt316.1 bt324.1 bt332.1 bt332.2 bt334.1 bt334.2 true) else ((laws_gSame.f k bt324.1 bt328.1).bind fun t343 => (if t343 = true then (if (bt334.2 != bt338.2) = true then (laws_FnSumsOfPrimes.j2 k t315 bt316.1 bt324.1 bt332.1 bt332.2 bt334.1 bt334.2 true) else ((laws_gSame.f k bt334.1 bt338.1).bind fun t344 => (if t344 = true then (laws_FnSumsOfPrimes.j2 k t315 bt316.1 bt324.1 bt332.1 bt332.2 bt334.1 bt334.2 (bt316.2 != bt324.2)) else (laws_FnSumsOfPrimes.j2 k t315 bt316.1 bt324.1 bt332.1 bt332.2 bt334.1 bt334.2 true)))) else (laws_FnSumsOfPrimes.j2 k t315 bt316.1 bt324.1 bt332.1 bt332.2 bt334.1 bt334.2 true)))) else (laws_FnSumsOfPrimes.j2 k t315 bt316.1 bt324.1 bt332.1 bt332.2 bt334.1 bt334.2 true)))))))))))
def laws_FnSumsOfPrimes.j2 : Nat → Int → List Int → List Int → Int → Int → List Int → Bool → Bool → Option (Bool)
  | 0, _, _, _, _, _, _, _, _ => none
  | k + 1, x20, x21, x25, x29, x30, x31, x32, x243 => if x243 = true then (some false) else (laws_FnSumsOfPrimes.l0 k x20 x21 x25 x29 x30 x31 x32 x21 (x21.length : Int) 0)
def laws_FnSumsOfPrimes.l0 : Nat → Int → List Int → List Int → Int → Int → List Int → Bool → List Int → Int → Int → Option (Bool)
  | 0, _, _, _, _, _, _, _, _, _, _ => none
  | k + 1, x20, x21, x25, x29, x30, x31, x32, x244, x245, x246 => if x246 < x245 then (if 0 ≤ x246 then (if x246 < (x244.length : Int) then ((impl_IsPrime.f k (rd x244 x246)).bind fun bt346 => ((impl_IsPrime.f k (wrap64 ((rd x244 x246) + 2))).bind fun bt348 => (if bt346.2 = true then (if bt346.1 = true then (if bt348.2 = true then (if bt348.1 = true then (if (rd x244 x246) > x20 then (some false) else (if x246 > 0 then (if 0 ≤ (wrap64 (x246 - 1)) then (if (wrap64 (x246 - 1)) < (x21.length : Int) then (if (rd x21 (wrap64 (x246 - 1))) ≥ (rd x244 x246) then (some false) else (if (rd x244 x246) > 3 then (if (Int.tmod (rd x244 x246) 6) = 5 then (laws_FnSumsOfPrimes.l0 k x20 x21 x25 x29 x30 x31 x32 x244 x245 (wrap64 (x246 + 1))) else (some false)) else (laws_FnSumsOfPrimes.l0 k x20 x21 x25 x29 x30 x31 x32 x244 x245 (wrap64 (x246 + 1))))) else (none)) else (none)) else (if (rd x244 x246) > 3 then (if (Int.tmod (rd x244 x246) 6) = 5 then (laws_FnSumsOfPrimes.l0 k x20 x21 x25 x29 x30 x31 x32 x244 x245 (wrap64 (x246 + 1))) else (some false)) else (laws_FnSumsOfPrimes.l0 k x20 x21 x25 x29 x30 x31 x32 x244 x245 (wrap64 (x246 + 1)))))) else (some false)) else (some false)) else (some false)) else (some false)))) else (none)) else (none)) else (laws_FnSumsOfPrimes.l1 k x20 x29 x30 x31 x32 x25 (x25.length : Int) 0)
def laws_FnSumsOfPrimes.l1 : Nat → Int → Int → Int → List Int → Bool → List Int → Int → Int → Option (Bool)
  | 0, _, _, _, _, _, _, _, _ => none
  | k + 1, x20, x29, x30, x31, x32, x304, x305, x306 => if x306 < x305 then (if 0 ≤ x306 then (if x306 < (x304.length : Int) then ((impl_IsPrime.f k (rd x304 x306)).bind fun bt352 => (if bt352.2 = true then (if bt352.1 = true then (if (wrap64 ((rd x304 x306) * (rd x304 x306))) > x20 then (some false) else (laws_FnSumsOfPrimes.l1 k x20 x29 x30 x31 x32 x304 x305 (wrap64 (x306 + 1)))) else (some false)) else (some false))) else (none)) else (none)) else (laws_FnSumsOfPrimes.l2 k x29 x30 x31 x32 1)
def laws_FnSumsOfPrimes.l2 : Nat → Int → Int → List Int → Bool → Int → Option (Bool)
  | 0, _, _, _, _, _ => none
  | k + 1, x29, x30, x31, x32, x45 => if x32 = true then (laws_FnSumsOfPrimes.j6 k x29 x30 x31 x32 x45 (decide (x45 ≤ x29))) else (laws_FnSumsOfPrimes.j6 k x29 x30 x31 x32 x45 false)
def laws_FnSumsOfPrimes.j6 : Nat → Int → Int → List Int → Bool → Int → Bool → Option (Bool)
  | 0, _, _, _, _, _, _ => none
  | k + 1, x29, x30, x31, x32, x45, x334 => if x334 = true then ((impl_IsSmooth.f k x45 x30).bind fun bt354 => (if bt354.2 = true then ((laws_gHas.f k x31 x45).bind fun t356 => (if (bt354.1 != t356) = true then (some false) else (laws_FnSumsOfPrimes.l2 k x29 x30 x31 x32 (wrap64 (x45 + 1))))) else (some false))) else (some true)
end
def laws_FnSumsOfPrimes.f (k : Nat) (l0 : List Int) (l1 : List Int) : Option (Bool) := (laws_big.f l0 l1).bind fun t299 => (if t299 = true then (some true) else ((spec_DrawFirstTwoPrimes.f l0).bind fun t300 => ((impl_FirstTwoPrimes.f k t300).bind fun bt301 => ((spec_FirstTwoPrimes.f k t300).bind fun bt304 => ((impl_CountTwoPrimes.f k t300).bind fun bt307 => ((spec_CountTwoPrimes.f k t300).bind fun bt309 => (if (bt301.2.2 != bt304.2.2) = true then (laws_FnSumsOfPrimes.j0 k l1 t300 bt301.1 bt301.2.1 bt301.2.2 bt307.1 true) else (if bt301.1 = bt304.1 then (if bt301.2.1 = bt304.2.1 then (if (bt307.2 != bt309.2) = true then (laws_FnSumsOfPrimes.j0 k l1 t300 bt301.1 bt301.2.1 bt301.2.2 bt307.1 true) else (if bt307.1 = bt309.1 then (if bt307.2 = true then (if (bt301.2.2 != (decide (bt307.1 > 0))) = true then (laws_FnSumsOfPrimes.j0 k l1 t300 bt301.1 bt301.2.1 bt301.2.2 bt307.1 true) else (if (Int.tmod t300 2) = 0 then (laws_FnSumsOfPrimes.j0 k l1 t300 bt301.1 bt301.2.1 bt301.2.2 bt307.1 (bt307.1 == 0)) else (laws_FnSumsOfPrimes.j0 k l1 t300 bt301.1 bt301.2.1 bt301.2.2 bt307.1 false))) else (if (bt301.2.2 != false) = true then (laws_FnSumsOfPrimes.j0 k l1 t300 bt301.1 bt301.2.1 bt301.2.2 bt307.1 true) else (laws_FnSumsOfPrimes.j0 k l1 t300 bt301.1 bt301.2.1 bt301.2.2 bt307.1 false))) else (laws_FnSumsOfPrimes.j0 k l1 t300 bt301.1 bt301.2.1 bt301.2.2 bt307.1 true))) else (laws_FnSumsOfPrimes.j0 k l1 t300 bt301.1 bt301.2.1 bt301.2.2 bt307.1 true)) else (laws_FnSumsOfPrimes.j0 k l1 t300 bt301.1 bt301.2.1 bt301.2.2 bt307.1 true)))))))))
theorem laws_FnSumsOfPrimes.mono_l : ∀ k, (∀ y0 y1 y2 y3 y4 y5 y6, LeO (laws_FnSumsOfPrimes.j0 k y0 y1 y2 y3 y4 y5 y6) (laws_FnSumsOfPrimes.j0 (k + 1) y0 y1 y2 y3 y4 y5 y6)) ∧ (∀ y0, LeO (laws_FnSumsOfPrimes.j1 k y0) (laws_FnSumsOfPrimes.j1 (k + 1) y0)) ∧ (∀ y0 y1 y2 y3 y4 y5 y6 y7, LeO (laws_FnSumsOfPrimes.j2 k y0 y1 y2 y3 y4 y5 y6 y7) (laws_FnSumsOfPrimes.j2 (k + 1) y0 y1 y2 y3 y4 y5 y6 y7)) ∧ (∀ y0 y1 y2 y3 y4 y5 y6 y7 y8 y9, LeO (laws_FnSumsOfPrimes.l0 k y0 y1 y2 y3 y4 y5 y6 y7 y8 y9) (laws_FnSumsOfPrimes.l0 (k + 1) y0 y1 y2 y3 y4 y5 y6 y7 y8 y9)) ∧ (∀ y0 y1 y2 y3 y4 y5 y6 y7, LeO (laws_FnSumsOfPrimes.l1 k y0 y1 y2 y3 y4 y5 y6 y7) (laws_FnSumsOfPrimes.l1 (k + 1) y0 y1 y2 y3 y4 y5 y6 y7)) ∧ (∀ y0 y1 y2 y3 y4, LeO (laws_FnSumsOfPrimes.l2 k y0 y1 y2 y3 y4) (laws_FnSumsOfPrimes.l2 (k + 1) y0 y1 y2 y3 y4)) ∧ (∀ y0 y1 y2 y3 y4 y5, LeO (laws_FnSumsOfPrimes.j6 k y0 y1 y2 y3 y4 y5) (laws_FnSumsOfPrimes.j6 (k + 1) y0 y1 y2 y3 y4 y5))
  | 0 => ⟨fun _ _ _ _ _ _ _ r h => by simp [laws_FnSumsOfPrimes.j0] at h, fun _ r h => by simp [laws_FnSumsOfPrimes.j1] at h, fun _ _ _ _ _ _ _ _ r h => by simp [laws_FnSumsOfPrimes.j2] at h, fun _ _ _ _ _ _ _ _ _ _ r h => by simp [laws_FnSumsOfPrimes.l0] at h, fun _ _ _ _ _ _ _ _ r h => by simp [laws_FnSumsOfPrimes.l1] at h, fun _ _ _ _ _ r h => by simp [laws_FnSumsOfPrimes.l2] at h, fun _ _ _ _ _ _ r h => by simp [laws_FnSumsOfPrimes.j6] at h⟩
  | k + 1 => by
    obtain ⟨ih0, ih1, ih2, ih3, ih4, ih5, ih6⟩ := laws_FnSumsOfPrimes.mono_l k
    refine ⟨?_, ?_, ?_, ?_, ?_, ?_, ?_⟩
    · intro y0 y1 y2 y3 y4 y5 y6
      unfold laws_FnSumsOfPrimes.j0
      repeat' first
      | (with_reducible exact ih0 _ _ _ _ _ _ _)
      | (with_reducible exact ih1 _)
      | (with_reducible exact ih2 _ _ _ _ _ _ _ _)
      | (with_reducible exact ih3 _ _ _ _ _ _ _ _ _ _)
      | (with_reducible exact ih4 _ _ _ _ _ _ _ _)
      | (with_reducible exact ih5 _ _ _ _ _)
      | (with_reducible exact ih6 _ _ _ _ _ _)
      | (with_reducible exact impl_CountTwoPrimes.mono _ _)
      | (with_reducible exact impl_CrossersUpTo.mono _ _)
      | (with_reducible exact impl_FirstTwoPrimes.mono _ _)
      | (with_reducible exact impl_IsPrime.mono _ _)
      | (with_reducible exact impl_IsSmooth.mono _ _ _)
      | (with_reducible exact impl_SmoothUpTo.mono _ _ _)
      | (with_reducible exact impl_TwinsUpTo.mono _ _)
      | (with_reducible exact laws_gHas.mono _ _ _)
      | (with_reducible exact laws_gSame.mono _ _ _)
      | (with_reducible exact spec_CountTwoPrimes.mono _ _)
      | (with_reducible exact spec_CrossersUpTo.mono _ _)
      | (with_reducible exact spec_FirstTwoPrimes.mono _ _)
      | (with_reducible exact spec_SmoothUpTo.mono _ _ _)
      | (with_reducible exact spec_TwinsUpTo.mono _ _)
      | (with_reducible exact LeO.refl _)
      | (with_reducible exact LeO.none _)
      | (with_reducible refine LeO.ite ?_ ?_)
      | (with_reducible refine LeO.bind ?_ (fun _ => ?_))
      | exact ih0 _ _ _ _ _ _ _
      | exact ih1 _
      | exact ih2 _ _ _ _ _ _ _ _
      | exact ih3 _ _ _ _ _ _ _ _ _ _
      | exact ih4 _ _ _ _ _ _ _ _
      | exact ih5 _ _ _ _ _
      | exact ih6 _ _ _ _ _ _
      | exact impl_CountTwoPrimes.mono _ _
      | exact impl_CrossersUpTo.mono _ _
      | exact impl_FirstTwoPrimes.mono _ _
      | exact impl_IsPrime.mono _ _
      | exact impl_IsSmooth.mono _ _ _
      | exact impl_SmoothUpTo.mono _ _ _
      | exact impl_TwinsUpTo.mono _ _
      | exact laws_gHas.mono _ _ _
      | exact laws_gSame.mono _ _ _
      | exact spec_CountTwoPrimes.mono _ _
      | exact spec_CrossersUpTo.mono _ _
      | exact spec_FirstTwoPrimes.mono _ _
      | exact spec_SmoothUpTo.mono _ _ _
      | exact spec_TwinsUpTo.mono _ _
      | exact LeO.none _
      | refine LeO.ite ?_ ?_
      | refine LeO.bind ?_ (fun _ => ?_)
    · intro y0
      unfold laws_FnSumsOfPrimes.j1
      repeat' first
      | (with_reducible exact ih0 _ _ _ _ _ _ _)
      | (with_reducible exact ih1 _)
      | (with_reducible exact ih2 _ _ _ _ _ _ _ _)
      | (with_reducible exact ih3 _ _ _ _ _ _ _ _ _ _)
      | (with_reducible exact ih4 _ _ _ _ _ _ _ _)
      | (with_reducible exact ih5 _ _ _ _ _)
      | (with_reducible exact ih6 _ _ _ _ _ _)
      | (with_reducible exact impl_CountTwoPrimes.mono _ _)
      | (with_reducible exact impl_CrossersUpTo.mono _ _)
      | (with_reducible exact impl_FirstTwoPrimes.mono _ _)
      | (with_reducible exact impl_IsPrime.mono _ _)
      | (with_reducible exact impl_IsSmooth.mono _ _ _)
      | (with_reducible exact impl_SmoothUpTo.mono _ _ _)
      | (with_reducible exact impl_TwinsUpTo.mono _ _)
      | (with_reducible exact laws_gHas.mono _ _ _)
      | (with_reducible exact laws_gSame.mono _ _ _)
      | (with_reducible exact spec_CountTwoPrimes.mono _ _)
      | (with_reducible exact spec_CrossersUpTo.mono _ _)
      | (with_reducible exact spec_FirstTwoPrimes.mono _ _)
      | (with_reducible exact spec_SmoothUpTo.mono _ _ _)
      | (with_reducible exact spec_TwinsUpTo.mono _ _)
      | (with_reducible exact LeO.refl _)
      | (with_reducible exact LeO.none _)
      | (with_reducible refine LeO.ite ?_ ?_)
      | (with_reducible refine LeO.bind ?_ (fun _ => ?_))
      | exact ih0 _ _ _ _ _ _ _
      | exact ih1 _
      | exact ih2 _ _ _ _ _ _ _ _
      | exact ih3 _ _ _ _ _ _ _ _ _ _
      | exact ih4 _ _ _ _ _ _ _ _
      | exact ih5 _ _ _ _ _
      | exact ih6 _ _ _ _ _ _
      | exact impl_CountTwoPrimes.mono _ _
      | exact impl_CrossersUpTo.mono _ _
      | exact impl_FirstTwoPrimes.mono _ _
      | exact impl_IsPrime.mono _ _
      | exact impl_IsSmooth.mono _ _ _
      | exact impl_SmoothUpTo.mono _ _ _
      | exact impl_TwinsUpTo.mono _ _
      | exact laws_gHas.mono _ _ _
      | exact laws_gSame.mono _ _ _
      | exact spec_CountTwoPrimes.mono _ _
      | exact spec_CrossersUpTo.mono _ _
      | exact spec_FirstTwoPrimes.mono _ _
      | exact spec_SmoothUpTo.mono _ _ _
      | exact spec_TwinsUpTo.mono _ _
      | exact LeO.none _
      | refine LeO.ite ?_ ?_
      | refine LeO.bind ?_ (fun _ => ?_)
    · intro y0 y1 y2 y3 y4 y5 y6 y7
      unfold laws_FnSumsOfPrimes.j2
      repeat' first
      | (with_reducible exact ih0 _ _ _ _ _ _ _)
      | (with_reducible exact ih1 _)
      | (with_reducible exact ih2 _ _ _ _ _ _ _ _)
      | (with_reducible exact ih3 _ _ _ _ _ _ _ _ _ _)
      | (with_reducible exact ih4 _ _ _ _ _ _ _ _)
      | (with_reducible exact ih5 _ _ _ _ _)
      | (with_reducible exact ih6 _ _ _ _ _ _)
      | (with_reducible exact impl_CountTwoPrimes.mono _ _)
      | (with_reducible exact impl_CrossersUpTo.mono _ _)
      | (with_reducible exact impl_FirstTwoPrimes.mono _ _)
      | (with_reducible exact impl_IsPrime.mono _ _)
      | (with_reducible exact impl_IsSmooth.mono _ _ _)
      | (with_reducible exact impl_SmoothUpTo.mono _ _ _)
      | (with_reducible exact impl_TwinsUpTo.mono _ _)
      | (with_reducible exact laws_gHas.mono _ _ _)
      | (with_reducible exact laws_gSame.mono _ _ _)
      | (with_reducible exact spec_CountTwoPrimes.mono _ _)
      | (with_reducible exact spec_CrossersUpTo.mono _ _)
      | (with_reducible exact spec_FirstTwoPrimes.mono _ _)
      | (with_reducible exact spec_SmoothUpTo.mono _ _ _)
      | (with_reducible exact spec_TwinsUpTo.mono _ _)
      | (with_reducible exact LeO.refl _)
      | (with_reducible exact LeO.none _)
      | (with_reducible refine LeO.ite ?_ ?_)
      | (with_reducible refine LeO.bind ?_ (fun _ => ?_))
      | exact ih0 _ _ _ _ _ _ _
      | exact ih1 _
      | exact ih2 _ _ _ _ _ _ _ _
      | exact ih3 _ _ _ _ _ _ _ _ _ _
      | exact ih4 _ _ _ _ _ _ _ _
      | exact ih5 _ _ _ _ _
      | exact ih6 _ _ _ _ _ _
      | exact impl_CountTwoPrimes.mono _ _
      | exact impl_CrossersUpTo.mono _ _
      | exact impl_FirstTwoPrimes.mono _ _
      | exact impl_IsPrime.mono _ _
      | exact impl_IsSmooth.mono _ _ _
      | exact impl_SmoothUpTo.mono _ _ _
      | exact impl_TwinsUpTo.mono _ _
      | exact laws_gHas.mono _ _ _
      | exact laws_gSame.mono _ _ _
      | exact spec_CountTwoPrimes.mono _ _
      | exact spec_CrossersUpTo.mono _ _
      | exact spec_FirstTwoPrimes.mono _ _
      | exact spec_SmoothUpTo.mono _ _ _
      | exact spec_TwinsUpTo.mono _ _
      | exact LeO.none _
      | refine LeO.ite ?_ ?_
      | refine LeO.bind ?_ (fun _ => ?_)
    · intro y0 y1 y2 y3 y4 y5 y6 y7 y8 y9
      unfold laws_FnSumsOfPrimes.l0
      repeat' first
      | (with_reducible exact ih0 _ _ _ _ _ _ _)
      | (with_reducible exact ih1 _)
      | (with_reducible exact ih2 _ _ _ _ _ _ _ _)
      | (with_reducible exact ih3 _ _ _ _ _ _ _ _ _ _)
      | (with_reducible exact ih4 _ _ _ _ _ _ _ _)
      | (with_reducible exact ih5 _ _ _ _ _)
      | (with_reducible exact ih6 _ _ _ _ _ _)
      | (with_reducible exact impl_CountTwoPrimes.mono _ _)
      | (with_reducible exact impl_CrossersUpTo.mono _ _)
      | (with_reducible exact impl_FirstTwoPrimes.mono _ _)
      | (with_reducible exact impl_IsPrime.mono _ _)
      | (with_reducible exact impl_IsSmooth.mono _ _ _)
      | (with_reducible exact impl_SmoothUpTo.mono _ _ _)
      | (with_reducible exact impl_TwinsUpTo.mono _ _)
      | (with_reducible exact laws_gHas.mono _ _ _)
      | (with_reducible exact laws_gSame.mono _ _ _)
      | (with_reducible exact spec_CountTwoPrimes.mono _ _)
      | (with_reducible exact spec_CrossersUpTo.mono _ _)
      | (with_reducible exact spec_FirstTwoPrimes.mono _ _)
      | (with_reducible exact spec_SmoothUpTo.mono _ _ _)
      | (with_reducible exact spec_TwinsUpTo.mono _ _)
      | (with_reducible exact LeO.refl _)
      | (with_reducible exact LeO.none _)
      | (with_reducible refine LeO.ite ?_ ?_)
      | (with_reducible refine LeO.bind ?_ (fun _ => ?_))
      | exact ih0 _ _ _ _ _ _ _
      | exact ih1 _
      | exact ih2 _ _ _ _ _ _ _ _
      | exact ih3 _ _ _ _ _ _ _ _ _ _
      | exact ih4 _ _ _ _ _ _ _ _
      | exact ih5 _ _ _ _ _
      | exact ih6 _ _ _ _ _ _
      | exact impl_CountTwoPrimes.mono _ _
      | exact impl_CrossersUpTo.mono _ _
      | exact impl_FirstTwoPrimes.mono _ _
      | exact impl_IsPrime.mono _ _
      | exact impl_IsSmooth.mono _ _ _
      | exact impl_SmoothUpTo.mono _ _ _
      | exact impl_TwinsUpTo.mono _ _
      | exact laws_gHas.mono _ _ _
      | exact laws_gSame.mono _ _ _
      | exact spec_CountTwoPrimes.mono _ _
      | exact spec_CrossersUpTo.mono _ _
      | exact spec_FirstTwoPrimes.mono _ _
      | exact spec_SmoothUpTo.mono _ _ _
      | exact spec_TwinsUpTo.mono _ _
      | exact LeO.none _
      | refine LeO.ite ?_ ?_
      | refine LeO.bind ?_ (fun _ => ?_)
    · intro y0 y1 y2 y3 y4 y5 y6 y7
      unfold laws_FnSumsOfPrimes.l1
      repeat' first
      | (with_reducible exact ih0 _ _ _ _ _ _ _)
      | (with_reducible exact ih1 _)
      | (with_reducible exact ih2 _ _ _ _ _ _ _ _)
      | (with_reducible exact ih3 _ _ _ _ _ _ _ _ _ _)
      | (with_reducible exact ih4 _ _ _ _ _ _ _ _)
      | (with_reducible exact ih5 _ _ _ _ _)
      | (with_reducible exact ih6 _ _ _ _ _ _)
      | (with_reducible exact impl_CountTwoPrimes.mono _ _)
      | (with_reducible exact impl_CrossersUpTo.mono _ _)
      | (with_reducible exact impl_FirstTwoPrimes.mono _ _)
      | (with_reducible exact impl_IsPrime.mono _ _)
      | (with_reducible exact impl_IsSmooth.mono _ _ _)
      | (with_reducible exact impl_SmoothUpTo.mono _ _ _)
      | (with_reducible exact impl_TwinsUpTo.mono _ _)
      | (with_reducible exact laws_gHas.mono _ _ _)
      | (with_reducible exact laws_gSame.mono _ _ _)
      | (with_reducible exact spec_CountTwoPrimes.mono _ _)
      | (with_reducible exact spec_CrossersUpTo.mono _ _)
      | (with_reducible exact spec_FirstTwoPrimes.mono _ _)
      | (with_reducible exact spec_SmoothUpTo.mono _ _ _)
      | (with_reducible exact spec_TwinsUpTo.mono _ _)
      | (with_reducible exact LeO.refl _)
      | (with_reducible exact LeO.none _)
      | (with_reducible refine LeO.ite ?_ ?_)
      | (with_reducible refine LeO.bind ?_ (fun _ => ?_))
      | exact ih0 _ _ _ _ _ _ _
      | exact ih1 _
      | exact ih2 _ _ _ _ _ _ _ _
      | exact ih3 _ _ _ _ _ _ _ _ _ _
      | exact ih4 _ _ _ _ _ _ _ _
      | exact ih5 _ _ _ _ _
      | exact ih6 _ _ _ _ _ _
      | exact impl_CountTwoPrimes.mono _ _
      | exact impl_CrossersUpTo.mono _ _
      | exact impl_FirstTwoPrimes.mono _ _
      | exact impl_IsPrime.mono _ _
      | exact impl_IsSmooth.mono _ _ _
      | exact impl_SmoothUpTo.mono _ _ _
      | exact impl_TwinsUpTo.mono _ _
      | exact laws_gHas.mono _ _ _
      | exact laws_gSame.mono _ _ _
      | exact spec_CountTwoPrimes.mono _ _
      | exact spec_CrossersUpTo.mono _ _
      | exact spec_FirstTwoPrimes.mono _ _
      | exact spec_SmoothUpTo.mono _ _ _
      | exact spec_TwinsUpTo.mono _ _
      | exact LeO.none _
      | refine LeO.ite ?_ ?_
      | refine LeO.bind ?_ (fun _ => ?_)
    · intro y0 y1 y2 y3 y4
      unfold laws_FnSumsOfPrimes.l2
      repeat' first
      | (with_reducible exact ih0 _ _ _ _ _ _ _)
      | (with_reducible exact ih1 _)
      | (with_reducible exact ih2 _ _ _ _ _ _ _ _)
      | (with_reducible exact ih3 _ _ _ _ _ _ _ _ _ _)
      | (with_reducible exact ih4 _ _ _ _ _ _ _ _)
      | (with_reducible exact ih5 _ _ _ _ _)
      | (with_reducible exact ih6 _ _ _ _ _ _)
      | (with_reducible exact impl_CountTwoPrimes.mono _ _)
      | (with_reducible exact impl_CrossersUpTo.mono _ _)
      | (with_reducible exact impl_FirstTwoPrimes.mono _ _)
      | (with_reducible exact impl_IsPrime.mono _ _)
      | (with_reducible exact impl_IsSmooth.mono _ _ _)
      | (with_reducible exact impl_SmoothUpTo.mono _ _ _)
      | (with_reducible exact impl_TwinsUpTo.mono _ _)
      | (with_reducible exact laws_gHas.mono _ _ _)
      | (with_reducible exact laws_gSame.mono _ _ _)
      | (with_reducible exact spec_CountTwoPrimes.mono _ _)
      | (with_reducible exact spec_CrossersUpTo.mono _ _)
      | (with_reducible exact spec_FirstTwoPrimes.mono _ _)
      | (with_reducible exact spec_SmoothUpTo.mono _ _ _)
      | (with_reducible exact spec_TwinsUpTo.mono _ _)
      | (with_reducible exact LeO.refl _)
      | (with_reducible exact LeO.none _)
      | (with_reducible refine LeO.ite ?_ ?_)
      | (with_reducible refine LeO.bind ?_ (fun _ => ?_))
      | exact ih0 _ _ _ _ _ _ _
      | exact ih1 _
      | exact ih2 _ _ _ _ _ _ _ _
      | exact ih3 _ _ _ _ _ _ _ _ _ _
      | exact ih4 _ _ _ _ _ _ _ _
      | exact ih5 _ _ _ _ _
      | exact ih6 _ _ _ _ _ _
      | exact impl_CountTwoPrimes.mono _ _
      | exact impl_CrossersUpTo.mono _ _
      | exact impl_FirstTwoPrimes.mono _ _
      | exact impl_IsPrime.mono _ _
      | exact impl_IsSmooth.mono _ _ _
      | exact impl_SmoothUpTo.mono _ _ _
      | exact impl_TwinsUpTo.mono _ _
      | exact laws_gHas.mono _ _ _
      | exact laws_gSame.mono _ _ _
      | exact spec_CountTwoPrimes.mono _ _
      | exact spec_CrossersUpTo.mono _ _
      | exact spec_FirstTwoPrimes.mono _ _
      | exact spec_SmoothUpTo.mono _ _ _
      | exact spec_TwinsUpTo.mono _ _
      | exact LeO.none _
      | refine LeO.ite ?_ ?_
      | refine LeO.bind ?_ (fun _ => ?_)
    · intro y0 y1 y2 y3 y4 y5
      unfold laws_FnSumsOfPrimes.j6
      repeat' first
      | (with_reducible exact ih0 _ _ _ _ _ _ _)
      | (with_reducible exact ih1 _)
      | (with_reducible exact ih2 _ _ _ _ _ _ _ _)
      | (with_reducible exact ih3 _ _ _ _ _ _ _ _ _ _)
      | (with_reducible exact ih4 _ _ _ _ _ _ _ _)
      | (with_reducible exact ih5 _ _ _ _ _)
      | (with_reducible exact ih6 _ _ _ _ _ _)
      | (with_reducible exact impl_CountTwoPrimes.mono _ _)
      | (with_reducible exact impl_CrossersUpTo.mono _ _)
      | (with_reducible exact impl_FirstTwoPrimes.mono _ _)
      | (with_reducible exact impl_IsPrime.mono _ _)
      | (with_reducible exact impl_IsSmooth.mono _ _ _)
      | (with_reducible exact impl_SmoothUpTo.mono _ _ _)
      | (with_reducible exact impl_TwinsUpTo.mono _ _)
      | (with_reducible exact laws_gHas.mono _ _ _)
      | (with_reducible exact laws_gSame.mono _ _ _)
      | (with_reducible exact spec_CountTwoPrimes.mono _ _)
      | (with_reducible exact spec_CrossersUpTo.mono _ _)
      | (with_reducible exact spec_FirstTwoPrimes.mono _ _)
      | (with_reducible exact spec_SmoothUpTo.mono _ _ _)
      | (with_reducible exact spec_TwinsUpTo.mono _ _)
      | (with_reducible exact LeO.refl _)
      | (with_reducible exact LeO.none _)
      | (with_reducible refine LeO.ite ?_ ?_)
      | (with_reducible refine LeO.bind ?_ (fun _ => ?_))
      | exact ih0 _ _ _ _ _ _ _
      | exact ih1 _
      | exact ih2 _ _ _ _ _ _ _ _
      | exact ih3 _ _ _ _ _ _ _ _ _ _
      | exact ih4 _ _ _ _ _ _ _ _
      | exact ih5 _ _ _ _ _
      | exact ih6 _ _ _ _ _ _
      | exact impl_CountTwoPrimes.mono _ _
      | exact impl_CrossersUpTo.mono _ _
      | exact impl_FirstTwoPrimes.mono _ _
      | exact impl_IsPrime.mono _ _
      | exact impl_IsSmooth.mono _ _ _
      | exact impl_SmoothUpTo.mono _ _ _
      | exact impl_TwinsUpTo.mono _ _
      | exact laws_gHas.mono _ _ _
      | exact laws_gSame.mono _ _ _
      | exact spec_CountTwoPrimes.mono _ _
      | exact spec_CrossersUpTo.mono _ _
      | exact spec_FirstTwoPrimes.mono _ _
      | exact spec_SmoothUpTo.mono _ _ _
      | exact spec_TwinsUpTo.mono _ _
      | exact LeO.none _
      | refine LeO.ite ?_ ?_
      | refine LeO.bind ?_ (fun _ => ?_)
theorem laws_FnSumsOfPrimes.mono : ∀ a0 a1 k, LeO (laws_FnSumsOfPrimes.f k a0 a1) (laws_FnSumsOfPrimes.f (k + 1) a0 a1) := by
  intro a0 a1 k
  obtain ⟨ih0, ih1, ih2, ih3, ih4, ih5, ih6⟩ := laws_FnSumsOfPrimes.mono_l k
  unfold laws_FnSumsOfPrimes.f
  repeat' first
      | (with_reducible exact ih0 _ _ _ _ _ _ _)
      | (with_reducible exact ih1 _)
      | (with_reducible exact ih2 _ _ _ _ _ _ _ _)
      | (with_reducible exact ih3 _ _ _ _ _ _ _ _ _ _)
      | (with_reducible exact ih4 _ _ _ _ _ _ _ _)
      | (with_reducible exact ih5 _ _ _ _ _)
      | (with_reducible exact ih6 _ _ _ _ _ _)
      | (with_reducible exact impl_CountTwoPrimes.mono _ _)
      | (with_reducible exact impl_CrossersUpTo.mono _ _)
      | (with_reducible exact impl_FirstTwoPrimes.mono _ _)
      | (with_reducible exact impl_IsPrime.mono _ _)
      | (with_reducible exact impl_IsSmooth.mono _ _ _)
      | (with_reducible exact impl_SmoothUpTo.mono _ _ _)
      | (with_reducible exact impl_TwinsUpTo.mono _ _)
      | (with_reducible exact laws_gHas.mono _ _ _)
      | (with_reducible exact laws_gSame.mono _ _ _)
      | (with_reducible exact spec_CountTwoPrimes.mono _ _)
      | (with_reducible exact spec_CrossersUpTo.mono _ _)
      | (with_reducible exact spec_FirstTwoPrimes.mono _ _)
      | (with_reducible exact spec_SmoothUpTo.mono _ _ _)
      | (with_reducible exact spec_TwinsUpTo.mono _ _)
      | (with_reducible exact LeO.refl _)
      | (with_reducible exact LeO.none _)
      | (with_reducible refine LeO.ite ?_ ?_)
      | (with_reducible refine LeO.bind ?_ (fun _ => ?_))
      | exact ih0 _ _ _ _ _ _ _
      | exact ih1 _
      | exact ih2 _ _ _ _ _ _ _ _
      | exact ih3 _ _ _ _ _ _ _ _ _ _
      | exact ih4 _ _ _ _ _ _ _ _
      | exact ih5 _ _ _ _ _
      | exact ih6 _ _ _ _ _ _
      | exact impl_CountTwoPrimes.mono _ _
      | exact impl_CrossersUpTo.mono _ _
      | exact impl_FirstTwoPrimes.mono _ _
      | exact impl_IsPrime.mono _ _
      | exact impl_IsSmooth.mono _ _ _
      | exact impl_SmoothUpTo.mono _ _ _
      | exact impl_TwinsUpTo.mono _ _
      | exact laws_gHas.mono _ _ _
      | exact laws_gSame.mono _ _ _
      | exact spec_CountTwoPrimes.mono _ _
      | exact spec_CrossersUpTo.mono _ _
      | exact spec_FirstTwoPrimes.mono _ _
      | exact spec_SmoothUpTo.mono _ _ _
      | exact spec_TwinsUpTo.mono _ _
      | exact LeO.none _
      | refine LeO.ite ?_ ?_
      | refine LeO.bind ?_ (fun _ => ?_)
set_option maxHeartbeats 8000000 in
set_option maxRecDepth 100000 in
theorem laws_FnSumsOfPrimes.calls (k : Nat) (A0 : Option Addr) (c0 : Nat) (l0 : List Int) (A1 : Option Addr) (c1 : Nat) (l1 : List Int) (r : Bool) (w : World) (hr0 : Kd.C (Kd.int .u8) w A0 l0.length l0) (hc0 : l0.length ≤ c0) (hr1 : Kd.C (Kd.int .u8) w A1 l1.length l1) (hc1 : l1.length ≤ c1) (h : laws_FnSumsOfPrimes.f k l0 l1 = some r) :
    Calls Try.prog 4 #[.slice A0 l0.length c0, .slice A1 l1.length c1] w fun e w' => e = .returned (.bool r) ∧ Below w.heap.size w w' := by
  have HR0 := Aside0.mk hr0
  have HC0 := Aside0.mk hc0
  clear hr0 hc0
  have HR1 := Aside0.mk hr1
  have HC1 := Aside0.mk hc1
  clear hr1 hc1
  have HB := Aside0.mk (Below.refl w.heap.size w)
  have H : ((laws_big.f l0 l1).bind fun t299 => (if t299 = true then (some true) else ((spec_DrawFirstTwoPrimes.f l0).bind fun t300 => ((impl_FirstTwoPrimes.f k t300).bind fun bt301 => ((spec_FirstTwoPrimes.f k t300).bind fun bt304 => ((impl_CountTwoPrimes.f k t300).bind fun bt307 => ((spec_CountTwoPrimes.f k t300).bind fun bt309 => (if (bt301.2.2 != bt304.2.2) = true then (laws_FnSumsOfPrimes.j0 k l1 t300 bt301.1 bt301.2.1 bt301.2.2 bt307.1 true) else (if bt301.1 = bt304.1 then (if bt301.2.1 = bt304.2.1 then (if (bt307.2 != bt309.2) = true then (laws_FnSumsOfPrimes.j0 k l1 t300 bt301.1 bt301.2.1 bt301.2.2 bt307.1 true) else (if bt307.1 = bt309.1 then (if bt307.2 = true then (if (bt301.2.2 != (decide (bt307.1 > 0))) = true then (laws_FnSumsOfPrimes.j0 k l1 t300 bt301.1 bt301.2.1 bt301.2.2 bt307.1 true) else (if (Int.tmod t300 2) = 0 then (laws_FnSumsOfPrimes.j0 k l1 t300 bt301.1 bt301.2.1 bt301.2.2 bt307.1 (bt307.1 == 0)) else (laws_FnSumsOfPrimes.j0 k l1 t300 bt301.1 bt301.2.1 bt301.2.2 bt307.1 false))) else (if (bt301.2.2 != false) = true then (laws_FnSumsOfPrimes.j0 k l1 t300 bt301.1 bt301.2.1 bt301.2.2 bt307.1 true) else (laws_FnSumsOfPrimes.j0 k l1 t300 bt301.1 bt301.2.1 bt301.2.2 bt307.1 false))) else (laws_FnSumsOfPrimes.j0 k l1 t300 bt301.1 bt301.2.1 bt301.2.2 bt307.1 true))) else (laws_FnSumsOfPrimes.j0 k l1 t300 bt301.1 bt301.2.1 bt301.2.2 bt307.1 true)) else (laws_FnSumsOfPrimes.j0 k l1 t300 bt301.1 bt301.2.1 bt301.2.2 bt307.1 true)))))))))) = some r := h
  clear h
  replace H := Option.bind_eq_some_iff.mp H
  obtain ⟨t299, A30, H⟩ := H
  replace H : (if t299 = true then (some true) else ((spec_DrawFirstTwoPrimes.f l0).bind fun t300 => ((impl_FirstTwoPrimes.f k t300).bind fun bt301 => ((spec_FirstTwoPrimes.f k t300).bind fun bt304 => ((impl_CountTwoPrimes.f k t300).bind fun bt307 => ((spec_CountTwoPrimes.f k t300).bind fun bt309 => (if (bt301.2.2 != bt304.2.2) = true then (laws_FnSumsOfPrimes.j0 k l1 t300 bt301.1 bt301.2.1 bt301.2.2 bt307.1 true) else (if bt301.1 = bt304.1 then (if bt301.2.1 = bt304.2.1 then (if (bt307.2 != bt309.2) = true then (laws_FnSumsOfPrimes.j0 k l1 t300 bt301.1 bt301.2.1 bt301.2.2 bt307.1 true) else (if bt307.1 = bt309.1 then (if bt307.2 = true then (if (bt301.2.2 != (decide (bt307.1 > 0))) = true then (laws_FnSumsOfPrimes.j0 k l1 t300 bt301.1 bt301.2.1 bt301.2.2 bt307.1 true) else (if (Int.tmod t300 2) = 0 then (laws_FnSumsOfPrimes.j0 k l1 t300 bt301.1 bt301.2.1 bt301.2.2 bt307.1 (bt307.1 == 0)) else (laws_FnSumsOfPrimes.j0 k l1 t300 bt301.1 bt301.2.1 bt301.2.2 bt307.1 false))) else (if (bt301.2.2 != false) = true then (laws_FnSumsOfPrimes.j0 k l1 t300 bt301.1 bt301.2.1 bt301.2.2 bt307.1 true) else (laws_FnSumsOfPrimes.j0 k l1 t300 bt301.1 bt301.2.1 bt301.2.2 bt307.1 false))) else (laws_FnSumsOfPrimes.j0 k l1 t300 bt301.1 bt301.2.1 bt301.2.2 bt307.1 true))) else (laws_FnSumsOfPrimes.j0 k l1 t300 bt301.1 bt301.2.1 bt301.2.2 bt307.1 true)) else (laws_FnSumsOfPrimes.j0 k l1 t300 bt301.1 bt301.2.1 bt301.2.2 bt307.1 true))))))))) = some r := H
  have A3 := Aside0.mk A30
  clear A30
  by_cases c4 : t299 = true
  · subst c4
    have H1 : (some true) = some r := by rw [if_pos rfl] at H; exact H
    clear H
    have H := H1
    clear H1
    obtain rfl := Option.some.inj H
    go_enter Try.func4, Try.ntmps4
    go_wp2_with (first | ((with_reducible refine gate_callee (f := 22) rfl ?_); refine goesL_ (some 50) rfl rfl Try.func22 (by kernel_rfl) rfl #[.slice A0 l0.length c0, .slice A1 l1.length c1] rfl (by (try simp only [List.map_toArray, List.map_cons, List.map_nil]); first | done | rfl | (simp only [List.length_drop, List.length_take]; rfl)) ?_; (with_reducible refine (laws_big.calls _ _ l0 _ _ l1 true _ ?side1 ?side2 ?side3 ?side4 A3.out).mono ?_); (case side1 => repeat (first | exact HR0.out | (with_reducible refine Kd.C_alloc ?_ _) | (with_reducible refine Kd.C_drewN ?_ _) | (with_reducible refine Kd.C_drew ?_))); (case side2 => exact HC0.out); (case side3 => repeat (first | exact HR1.out | (with_reducible refine Kd.C_alloc ?_ _) | (with_reducible refine Kd.C_drewN ?_ _) | (with_reducible refine Kd.C_drew ?_))); (case side4 => exact HC1.out); rintro e w' ⟨rfl, ⟨nd, rfl⟩⟩; refine ⟨_, rfl, ?_⟩))
    go_ret
    exact ⟨by first | rfl | (simp [errW_none, errW_some] <;> rfl) | (simp [*, errW_none, errW_some] <;> rfl), by repeat (first | (with_reducible first | exact HB.out | apply below_alloc | apply pw_below_drewN | apply below_drew1) | exact HB.out)⟩
  · replace c4 := Bool.eq_false_iff.mpr c4
    subst c4
    have H1 : ((spec_DrawFirstTwoPrimes.f l0).bind fun t300 => ((impl_FirstTwoPrimes.f k t300).bind fun bt301 => ((spec_FirstTwoPrimes.f k t300).bind fun bt304 => ((impl_CountTwoPrimes.f k t300).bind fun bt307 => ((spec_CountTwoPrimes.f k t300).bind fun bt309 => (if (bt301.2.2 != bt304.2.2) = true then (laws_FnSumsOfPrimes.j0 k l1 t300 bt301.1 bt301.2.1 bt301.2.2 bt307.1 true) else (if bt301.1 = bt304.1 then (if bt301.2.1 = bt304.2.1 then (if (bt307.2 != bt309.2) = true then (laws_FnSumsOfPrimes.j0 k l1 t300 bt301.1 bt301.2.1 bt301.2.2 bt307.1 true) else (if bt307.1 = bt309.1 then (if bt307.2 = true then (if (bt301.2.2 != (decide (bt307.1 > 0))) = true then (laws_FnSumsOfPrimes.j0 k l1 t300 bt301.1 bt301.2.1 bt301.2.2 bt307.1 true) else (if (Int.tmod t300 2) = 0 then (laws_FnSumsOfPrimes.j0 k l1 t300 bt301.1 bt301.2.1 bt301.2.2 bt307.1 (bt307.1 == 0)) else (laws_FnSumsOfPrimes.j0 k l1 t300 bt301.1 bt301.2.1 bt301.2.2 bt307.1 false))) else (if (bt301.2.2 != false) = true then (laws_FnSumsOfPrimes.j0 k l1 t300 bt301.1 bt301.2.1 bt301.2.2 bt307.1 true) else (laws_FnSumsOfPrimes.j0 k l1 t300 bt301.1 bt301.2.1 bt301.2.2 bt307.1 false))) else (laws_FnSumsOfPrimes.j0 k l1 t300 bt301.1 bt301.2.1 bt301.2.2 bt307.1 true))) else (laws_FnSumsOfPrimes.j0 k l1 t300 bt301.1 bt301.2.1 bt301.2.2 bt307.1 true)) else (laws_FnSumsOfPrimes.j0 k l1 t300 bt301.1 bt301.2.1 bt301.2.2 bt307.1 true)))))))) = some r := by rw [if_neg (show ¬ (false = true) by decide)] at H; exact H
    clear H
    have H := H1
    clear H1
    replace H := Option.bind_eq_some_iff.mp H
    obtain ⟨t300, A50, H⟩ := H
    replace H : ((impl_FirstTwoPrimes.f k t300).bind fun bt301 => ((spec_FirstTwoPrimes.f k t300).bind fun bt304 => ((impl_CountTwoPrimes.f k t300).bind fun bt307 => ((spec_CountTwoPrimes.f k t300).bind fun bt309 => (if (bt301.2.2 != bt304.2.2) = true then (laws_FnSumsOfPrimes.j0 k l1 t300 bt301.1 bt301.2.1 bt301.2.2 bt307.1 true) else (if bt301.1 = bt304.1 then (if bt301.2.1 = bt304.2.1 then (if (bt307.2 != bt309.2) = true then (laws_FnSumsOfPrimes.j0 k l1 t300 bt301.1 bt301.2.1 bt301.2.2 bt307.1 true) else (if bt307.1 = bt309.1 then (if bt307.2 = true then (if (bt301.2.2 != (decide (bt307.1 > 0))) = true then (laws_FnSumsOfPrimes.j0 k l1 t300 bt301.1 bt301.2.1 bt301.2.2 bt307.1 true) else (if (Int.tmod t300 2) = 0 then (laws_FnSumsOfPrimes.j0 k l1 t300 bt301.1 bt301.2.1 bt301.2.2 bt307.1 (bt307.1 == 0)) else (laws_FnSumsOfPrimes.j0 k l1 t300 bt301.1 bt301.2.1 bt301.2.2 bt307.1 false))) else (if (bt301.2.2 != false) = true then (laws_FnSumsOfPrimes.j0 k l1 t300 bt301.1 bt301.2.1 bt301.2.2 bt307.1 true) else (laws_FnSumsOfPrimes.j0 k l1 t300 bt301.1 bt301.2.1 bt301.2.2 bt307.1 false))) else (laws_FnSumsOfPrimes.j0 k l1 t300 bt301.1 bt301.2.1 bt301.2.2 bt307.1 true))) else (laws_FnSumsOfPrimes.j0 k l1 t300 bt301.1 bt301.2.1 bt301.2.2 bt307.1 true)) else (laws_FnSumsOfPrimes.j0 k l1 t300 bt301.1 bt301.2.1 bt301.2.2 bt307.1 true))))))) = some r := H
    have A5 := Aside0.mk A50
    clear A50
    replace H := Option.bind_eq_some_iff.mp H
    obtain ⟨⟨t301, t302, t303⟩, A60, H⟩ := H
    replace H : ((spec_FirstTwoPrimes.f k t300).bind fun bt304 => ((impl_CountTwoPrimes.f k t300).bind fun bt307 => ((spec_CountTwoPrimes.f k t300).bind fun bt309 => (if (t303 != bt304.2.2) = true then (laws_FnSumsOfPrimes.j0 k l1 t300 t301 t302 t303 bt307.1 true) else (if t301 = bt304.1 then (if t302 = bt304.2.1 then (if (bt307.2 != bt309.2) = true then (laws_FnSumsOfPrimes.j0 k l1 t300 t301 t302 t303 bt307.1 true) else (if bt307.1 = bt309.1 then (if bt307.2 = true then (if (t303 != (decide (bt307.1 > 0))) = true then (laws_FnSumsOfPrimes.j0 k l1 t300 t301 t302 t303 bt307.1 true) else (if (Int.tmod t300 2) = 0 then (laws_FnSumsOfPrimes.j0 k l1 t300 t301 t302 t303 bt307.1 (bt307.1 == 0)) else (laws_FnSumsOfPrimes.j0 k l1 t300 t301 t302 t303 bt307.1 false))) else (if (t303 != false) = true then (laws_FnSumsOfPrimes.j0 k l1 t300 t301 t302 t303 bt307.1 true) else (laws_FnSumsOfPrimes.j0 k l1 t300 t301 t302 t303 bt307.1 false))) else (laws_FnSumsOfPrimes.j0 k l1 t300 t301 t302 t303 bt307.1 true))) else (laws_FnSumsOfPrimes.j0 k l1 t300 t301 t302 t303 bt307.1 true)) else (laws_FnSumsOfPrimes.j0 k l1 t300 t301 t302 t303 bt307.1 true)))))) = some r := H
    have A6 := Aside0.mk A60
    clear A60
    replace H := Option.bind_eq_some_iff.mp H
    obtain ⟨⟨t304, t305, t306⟩, A70, H⟩ := H
    replace H : ((impl_CountTwoPrimes.f k t300).bind fun bt307 => ((spec_CountTwoPrimes.f k t300).bind fun bt309 => (if (t303 != t306) = true then (laws_FnSumsOfPrimes.j0 k l1 t300 t301 t302 t303 bt307.1 true) else (if t301 = t304 then (if t302 = t305 then (if (bt307.2 != bt309.2) = true then (laws_FnSumsOfPrimes.j0 k l1 t300 t301 t302 t303 bt307.1 true) else (if bt307.1 = bt309.1 then (if bt307.2 = true then (if (t303 != (decide (bt307.1 > 0))) = true then (laws_FnSumsOfPrimes.j0 k l1 t300 t301 t302 t303 bt307.1 true) else (if (Int.tmod t300 2) = 0 then (laws_FnSumsOfPrimes.j0 k l1 t300 t301 t302 t303 bt307.1 (bt307.1 == 0)) else (laws_FnSumsOfPrimes.j0 k l1 t300 t301 t302 t303 bt307.1 false))) else (if (t303 != false) = true then (laws_FnSumsOfPrimes.j0 k l1 t300 t301 t302 t303 bt307.1 true) else (laws_FnSumsOfPrimes.j0 k l1 t300 t301 t302 t303 bt307.1 false))) else (laws_FnSumsOfPrimes.j0 k l1 t300 t301 t302 t303 bt307.1 true))) else (laws_FnSumsOfPrimes.j0 k l1 t300 t301 t302 t303 bt307.1 true)) else (laws_FnSumsOfPrimes.j0 k l1 t300 t301 t302 t303 bt307.1 true))))) = some r := H
    have A7 := Aside0.mk A70
    clear A70
    replace H := Option.bind_eq_some_iff.mp H
    obtain ⟨⟨t307, t308⟩, A80, H⟩ := H
    replace H : ((spec_CountTwoPrimes.f k t300).bind fun bt309 => (if (t303 != t306) = true then (laws_FnSumsOfPrimes.j0 k l1 t300 t301 t302 t303 t307 true) else (if t301 = t304 then (if t302 = t305 then (if (t308 != bt309.2) = true then (laws_FnSumsOfPrimes.j0 k l1 t300 t301 t302 t303 t307 true) else (if t307 = bt309.1 then (if t308 = true then (if (t303 != (decide (t307 > 0))) = true then (laws_FnSumsOfPrimes.j0 k l1 t300 t301 t302 t303 t307 true) else (if (Int.tmod t300 2) = 0 then (laws_FnSumsOfPrimes.j0 k l1 t300 t301 t302 t303 t307 (t307 == 0)) else (laws_FnSumsOfPrimes.j0 k l1 t300 t301 t302 t303 t307 false))) else (if (t303 != false) = true then (laws_FnSumsOfPrimes.j0 k l1 t300 t301 t302 t303 t307 true) else (laws_FnSumsOfPrimes.j0 k l1 t300 t301 t302 t303 t307 false))) else (laws_FnSumsOfPrimes.j0 k l1 t300 t301 t302 t303 t307 true))) else (laws_FnSumsOfPrimes.j0 k l1 t300 t301 t302 t303 t307 true)) else (laws_FnSumsOfPrimes.j0 k l1 t300 t301 t302 t303 t307 true)))) = some r := H
    have A8 := Aside0.mk A80
    clear A80
    replace H := Option.bind_eq_some_iff.mp H
    obtain ⟨⟨t309, t310⟩, A90, H⟩ := H
    replace H : (if (t303 != t306) = true then (laws_FnSumsOfPrimes.j0 k l1 t300 t301 t302 t303 t307 true) else (if t301 = t304 then (if t302 = t305 then (if (t308 != t310) = true then (laws_FnSumsOfPrimes.j0 k l1 t300 t301 t302 t303 t307 true) else (if t307 = t309 then (if t308 = true then (if (t303 != (decide (t307 > 0))) = true then (laws_FnSumsOfPrimes.j0 k l1 t300 t301 t302 t303 t307 true) else (if (Int.tmod t300 2) = 0 then (laws_FnSumsOfPrimes.j0 k l1 t300 t301 t302 t303 t307 (t307 == 0)) else (laws_FnSumsOfPrimes.j0 k l1 t300 t301 t302 t303 t307 false))) else (if (t303 != false) = true then (laws_FnSumsOfPrimes.j0 k l1 t300 t301 t302 t303 t307 true) else (laws_FnSumsOfPrimes.j0 k l1 t300 t301 t302 t303 t307 false))) else (laws_FnSumsOfPrimes.j0 k l1 t300 t301 t302 t303 t307 true))) else (laws_FnSumsOfPrimes.j0 k l1 t300 t301 t302 t303 t307 true)) else (laws_FnSumsOfPrimes.j0 k l1 t300 t301 t302 t303 t307 true))) = some r := H
    have A9 := Aside0.mk A90
    clear A90
    have HC10 := Aside0.mk H
    clear H
    go_enter Try.func4, Try.ntmps4
    go_upto_region 8 with (first | ((with_reducible refine gate_callee (f := 22) rfl ?_); refine goesL_ (some 50) rfl rfl Try.func22 (by kernel_rfl) rfl #[.slice A0 l0.length c0, .slice A1 l1.length c1] rfl (by (try simp only [List.map_toArray, List.map_cons, List.map_nil]); first | done | rfl | (simp only [List.length_drop, List.length_take]; rfl)) ?_; (with_reducible refine (laws_big.calls _ _ l0 _ _ l1 false _ ?side1 ?side2 ?side3 ?side4 A3.out).mono ?_); (case side1 => repeat (first | exact HR0.out | (with_reducible refine Kd.C_alloc ?_ _) | (with_reducible refine Kd.C_drewN ?_ _) | (with_reducible refine Kd.C_drew ?_))); (case side2 => exact HC0.out); (case side3 => repeat (first | exact HR1.out | (with_reducible refine Kd.C_alloc ?_ _) | (with_reducible refine Kd.C_drewN ?_ _) | (with_reducible refine Kd.C_drew ?_))); (case side4 => exact HC1.out); rintro e w' ⟨rfl, ⟨nd, rfl⟩⟩; refine ⟨_, rfl, ?_⟩) | ((with_reducible refine gate_callee (f := 23) rfl ?_); refine goesL_ (some 52) rfl rfl Try.func23 (by kernel_rfl) rfl #[.slice A0 l0.length c0] rfl (by (try simp only [List.map_toArray, List.map_cons, List.map_nil]); first | done | rfl | (simp only [List.length_drop, List.length_take]; rfl)) ?_; (with_reducible refine (spec_DrawFirstTwoPrimes.calls _ _ l0 t300 _ ?side1 ?side2 A5.out).mono ?_); (case side1 => repeat (first | exact HR0.out | (with_reducible refine Kd.C_alloc ?_ _) | (with_reducible refine Kd.C_drewN ?_ _) | (with_reducible refine Kd.C_drew ?_))); (case side2 => exact HC0.out); rintro e w11 ⟨rfl, hb⟩; refine ⟨_, rfl, ?_⟩; have n0_ := Aside0.mk (below_step (by repeat (first | (with_reducible first | exact HB.out | apply below_alloc | apply pw_below_drewN | apply below_drew1) | exact HB.out)) hb); clear HB; have HB := n0_; clear n0_; (try clear hb); (try clear hb2); (try clear hk); (try clear hi)) | ((with_reducible refine gate_callee (f := 8) rfl ?_); refine goesL_ (some 55) rfl rfl Try.func8 (by kernel_rfl) rfl #[.int .i64 t300] rfl (by (try simp only [List.map_toArray, List.map_cons, List.map_nil]); first | done | rfl | (simp only [List.length_drop, List.length_take]; rfl)) ?_; (with_reducible refine (impl_FirstTwoPrimes.calls k t300 t301 t302 t303 _ A6.out).mono ?_); rintro e w12 ⟨rfl, hb⟩; refine ⟨_, rfl, ?_⟩; have n0_ := Aside0.mk (below_step (by repeat (first | (with_reducible first | exact HB.out | apply below_alloc | apply pw_below_drewN | apply below_drew1) | exact HB.out)) hb); clear HB; have HB := n0_; clear n0_; (try clear hb); (try clear hb2); (try clear hk); (try clear hi)) | ((with_reducible refine gate_callee (f := 9) rfl ?_); refine goesL_ (some 61) rfl rfl Try.func9 (by kernel_rfl) rfl #[.int .i64 t300] rfl (by (try simp only [List.map_toArray, List.map_cons, List.map_nil]); first | done | rfl | (simp only [List.length_drop, List.length_take]; rfl)) ?_; (with_reducible refine (spec_FirstTwoPrimes.calls k t300 t304 t305 t306 _ A7.out).mono ?_); rintro e w13 ⟨rfl, hb⟩; refine ⟨_, rfl, ?_⟩; have n0_ := Aside0.mk (below_step (by repeat (first | (with_reducible first | exact HB.out | apply below_alloc | apply pw_below_drewN | apply below_drew1) | exact HB.out)) hb); clear HB; have HB := n0_; clear n0_; (try clear hb); (try clear hb2); (try clear hk); (try clear hi)) | ((with_reducible refine gate_callee (f := 10) rfl ?_); refine goesL_ (some 67) rfl rfl Try.func10 (by kernel_rfl) rfl #[.int .i64 t300] rfl (by (try simp only [List.map_toArray, List.map_cons, List.map_nil]); first | done | rfl | (simp only [List.length_drop, List.length_take]; rfl)) ?_; (with_reducible refine (impl_CountTwoPrimes.calls k t300 t307 t308 _ A8.out).mono ?_); rintro e w14 ⟨rfl, hb⟩; refine ⟨_, rfl, ?_⟩; have n0_ := Aside0.mk (below_step (by repeat (first | (with_reducible first | exact HB.out | apply below_alloc | apply pw_below_drewN | apply below_drew1) | exact HB.out)) hb); clear HB; have HB := n0_; clear n0_; (try clear hb); (try clear hb2); (try clear hk); (try clear hi)) | ((with_reducible refine gate_callee (f := 11) rfl ?_); refine goesL_ (some 72) rfl rfl Try.func11 (by kernel_rfl) rfl #[.int .i64 t300] rfl (by (try simp only [List.map_toArray, List.map_cons, List.map_nil]); first | done | rfl | (simp only [List.length_drop, List.length_take]; rfl)) ?_; (with_reducible refine (spec_CountTwoPrimes.calls k t300 t309 t310 _ A9.out).mono ?_); rintro e w15 ⟨rfl, hb⟩; refine ⟨_, rfl, ?_⟩; have n0_ := Aside0.mk (below_step (by repeat (first | (with_reducible first | exact HB.out | apply below_alloc | apply pw_below_drewN | apply below_drew1) | exact HB.out)) hb); clear HB; have HB := n0_; clear n0_; (try clear hb); (try clear hb2); (try clear hk); (try clear hi)))
    (try simp only [Act.put, List.setIfInBounds_toArray, List.set_cons_zero, List.set_cons_succ])
    go_cut [118] (fun v118 wc => ∃ (kq : Nat) (x118_9 : Bool), v118 = .bool x118_9 ∧ Aside0 (laws_FnSumsOfPrimes.j0 kq l1 t300 t301 t302 t303 t307 x118_9 = some r) ∧ Aside0 (kq ≤ k) ∧ Aside0 (Below w.heap.size w wc))
    case first =>
      as_aux_lemma =>
      have H := HC10.out
      clear HC10
      by_cases c16 : (t303 != t306) = true
      · as_aux_lemma =>
        rw [if_pos c16] at H
        have c16b0 : (t303 != t306) = true := c16
        (try (have c16b1 : decide (t303 = t306) = false := by simpa using c16))
        (try (have c16b2 : (t303 == t306) = false := by simpa using c16))
        (try (have c16b3 : ¬ (t303 = t306) := by simpa using c16))
        clear c16
        (first | rw [c16b0] | (simp only [i64_w, i32_w]; rw [c16b0]) | skip)
        have H' := Aside0.mk H
        clear H
        go_wp2
        go_meet
        case rel => exact ⟨_, (true), (by first | rfl | (simp; done) | (simp [*]; done)), H', ⟨by first | omega | exact Nat.le_refl _⟩, ⟨by repeat (first | (with_reducible first | exact HB.out | apply below_alloc | apply pw_below_drewN | apply below_drew1) | exact HB.out)⟩⟩
      · as_aux_lemma =>
        rw [if_neg c16] at H
        have c16b0 : (t303 != t306) = false := by simpa using c16
        (try (have c16b1 : decide (t303 = t306) = true := by simpa using c16))
        (try (have c16b2 : (t303 == t306) = true := by simpa using c16))
        clear c16
        (first | rw [c16b0] | (simp only [i64_w, i32_w]; rw [c16b0]) | skip)
        by_cases c17 : t301 = t304
        · as_aux_lemma =>
          rw [if_pos c17] at H
          have c17b0 : (t301 == t304) = true := beq_iff_eq.mpr c17
          have c17b1 : (t301 != t304) = false := bne_eq_false_iff_eq.mpr c17
          clear c17
          by_cases c18 : t302 = t305
          · as_aux_lemma =>
            rw [if_pos c18] at H
            have c18b0 : (t302 == t305) = true := beq_iff_eq.mpr c18
            have c18b1 : (t302 != t305) = false := bne_eq_false_iff_eq.mpr c18
            clear c18
            by_cases c19 : (t308 != t310) = true
            · as_aux_lemma =>
              rw [if_pos c19] at H
              have c19b0 : (t308 != t310) = true := c19
              (try (have c19b1 : decide (t308 = t310) = false := by simpa using c19))
              (try (have c19b2 : (t308 == t310) = false := by simpa using c19))
              (try (have c19b3 : ¬ (t308 = t310) := by simpa using c19))
              clear c19
              have H' := Aside0.mk H
              clear H
              go_wp2
              go_meet
              case rel => exact ⟨_, (true), (by first | rfl | (simp; done) | (simp [*]; done)), H', ⟨by first | omega | exact Nat.le_refl _⟩, ⟨by repeat (first | (with_reducible first | exact HB.out | apply below_alloc | apply pw_below_drewN | apply below_drew1) | exact HB.out)⟩⟩
            · as_aux_lemma =>
              rw [if_neg c19] at H
              have c19b0 : (t308 != t310) = false := by simpa using c19
              (try (have c19b1 : decide (t308 = t310) = true := by simpa using c19))
              (try (have c19b2 : (t308 == t310) = true := by simpa using c19))
              clear c19
              by_cases c20 : t307 = t309
              · as_aux_lemma =>
                rw [if_pos c20] at H
                have c20b0 : (t307 == t309) = true := beq_iff_eq.mpr c20
                have c20b1 : (t307 != t309) = false := bne_eq_false_iff_eq.mpr c20
                clear c20
                by_cases c21 : t308 = true
                · subst c21
                  have H1 : (if (t303 != (decide (t307 > 0))) = true then (laws_FnSumsOfPrimes.j0 k l1 t300 t301 t302 t303 t307 true) else (if (Int.tmod t300 2) = 0 then (laws_FnSumsOfPrimes.j0 k l1 t300 t301 t302 t303 t307 (t307 == 0)) else (laws_FnSumsOfPrimes.j0 k l1 t300 t301 t302 t303 t307 false))) = some r := by rw [if_pos rfl] at H; exact H
                  clear H
                  have H := H1
                  clear H1
                  by_cases c22 : (t303 != (decide (t307 > 0))) = true
                  · as_aux_lemma =>
                    rw [if_pos c22] at H
                    have c22b0 : (t303 != (decide (t307 > 0))) = true := c22
                    (try (have c22b1 : decide (t303 = (decide (t307 > 0))) = false := by simpa using c22))
                    (try (have c22b2 : (t303 == (decide (t307 > 0))) = false := by simpa using c22))
                    (try (have c22b3 : ¬ (t303 = (decide (t307 > 0))) := by simpa using c22))
                    clear c22
                    have H' := Aside0.mk H
                    clear H
                    go_wp2
                    go_meet
                    case rel => exact ⟨_, (true), (by first | rfl | (simp; done) | (simp [*]; done)), H', ⟨by first | omega | exact Nat.le_refl _⟩, ⟨by repeat (first | (with_reducible first | exact HB.out | apply below_alloc | apply pw_below_drewN | apply below_drew1) | exact HB.out)⟩⟩
                  · as_aux_lemma =>
                    rw [if_neg c22] at H
                    have c22b0 : (t303 != (decide (t307 > 0))) = false := by simpa using c22
                    (try (have c22b1 : decide (t303 = (decide (t307 > 0))) = true := by simpa using c22))
                    (try (have c22b2 : (t303 == (decide (t307 > 0))) = true := by simpa using c22))
                    clear c22
                    by_cases c23 : (Int.tmod t300 2) = 0
                    · as_aux_lemma =>
                      rw [if_pos c23] at H
                      have c23b0 : ((Int.tmod t300 2) == 0) = true := beq_iff_eq.mpr c23
                      have c23b1 : ((Int.tmod t300 2) != 0) = false := bne_eq_false_iff_eq.mpr c23
                      clear c23
                      have H' := Aside0.mk H
                      clear H
                      go_wp2
                      go_meet
                      case rel => exact ⟨_, ((t307 == 0)), (by first | rfl | (simp; done) | (simp [*]; done)), H', ⟨by first | omega | exact Nat.le_refl _⟩, ⟨by repeat (first | (with_reducible first | exact HB.out | apply below_alloc | apply pw_below_drewN | apply below_drew1) | exact HB.out)⟩⟩
                    · as_aux_lemma =>
                      rw [if_neg c23] at H
                      have c23b0 : ((Int.tmod t300 2) == 0) = false := beq_eq_false_iff_ne.mpr c23
                      have c23b1 : ((Int.tmod t300 2) != 0) = true := bne_iff_ne.mpr c23
                      have H' := Aside0.mk H
                      clear H
                      go_wp2
                      go_meet
                      case rel => exact ⟨_, (false), (by first | rfl | (simp; done) | (simp [*]; done)), H', ⟨by first | omega | exact Nat.le_refl _⟩, ⟨by repeat (first | (with_reducible first | exact HB.out | apply below_alloc | apply pw_below_drewN | apply below_drew1) | exact HB.out)⟩⟩
                · replace c21 := Bool.eq_false_iff.mpr c21
                  subst c21
                  have H1 : (if (t303 != false) = true then (laws_FnSumsOfPrimes.j0 k l1 t300 t301 t302 t303 t307 true) else (laws_FnSumsOfPrimes.j0 k l1 t300 t301 t302 t303 t307 false)) = some r := by rw [if_neg (show ¬ (false = true) by decide)] at H; exact H
                  clear H
                  have H := H1
                  clear H1
                  by_cases c24 : (t303 != false) = true
                  · as_aux_lemma =>
                    rw [if_pos c24] at H
                    have hT_ : t303 = true := by simpa using c24
                    clear c24
                    subst hT_
                    have H' := Aside0.mk H
                    clear H
                    go_wp2
                    go_meet
                    case rel => exact ⟨_, (true), (by first | rfl | (simp; done) | (simp [*]; done)), H', ⟨by first | omega | exact Nat.le_refl _⟩, ⟨by repeat (first | (with_reducible first | exact HB.out | apply below_alloc | apply pw_below_drewN | apply below_drew1) | exact HB.out)⟩⟩
                  · as_aux_lemma =>
                    rw [if_neg c24] at H
                    have hT_ : t303 = false := by simpa using c24
                    clear c24
                    subst hT_
                    have H' := Aside0.mk H
                    clear H
                    go_wp2
                    go_meet
                    case rel => exact ⟨_, (false), (by first | rfl | (simp; done) | (simp [*]; done)), H', ⟨by first | omega | exact Nat.le_refl _⟩, ⟨by repeat (first | (with_reducible first | exact HB.out | apply below_alloc | apply pw_below_drewN | apply below_drew1) | exact HB.out)⟩⟩
              · as_aux_lemma =>
                rw [if_neg c20] at H
                have c20b0 : (t307 == t309) = false := beq_eq_false_iff_ne.mpr c20
                have c20b1 : (t307 != t309) = true := bne_iff_ne.mpr c20
                have H' := Aside0.mk H
                clear H
                go_wp2
                go_meet
                case rel => exact ⟨_, (true), (by first | rfl | (simp; done) | (simp [*]; done)), H', ⟨by first | omega | exact Nat.le_refl _⟩, ⟨by repeat (first | (with_reducible first | exact HB.out | apply below_alloc | apply pw_below_drewN | apply below_drew1) | exact HB.out)⟩⟩
          · as_aux_lemma =>
            rw [if_neg c18] at H
            have c18b0 : (t302 == t305) = false := beq_eq_false_iff_ne.mpr c18
            have c18b1 : (t302 != t305) = true := bne_iff_ne.mpr c18
            have H' := Aside0.mk H
            clear H
            go_wp2
            go_meet
            case rel => exact ⟨_, (true), (by first | rfl | (simp; done) | (simp [*]; done)), H', ⟨by first | omega | exact Nat.le_refl _⟩, ⟨by repeat (first | (with_reducible first | exact HB.out | apply below_alloc | apply pw_below_drewN | apply below_drew1) | exact HB.out)⟩⟩
        · as_aux_lemma =>
          rw [if_neg c17] at H
          have c17b0 : (t301 == t304) = false := beq_eq_false_iff_ne.mpr c17
          have c17b1 : (t301 != t304) = true := bne_iff_ne.mpr c17
          have H' := Aside0.mk H
          clear H
          go_wp2
          go_meet
          case rel => exact ⟨_, (true), (by first | rfl | (simp; done) | (simp [*]; done)), H', ⟨by first | omega | exact Nat.le_refl _⟩, ⟨by repeat (first | (with_reducible first | exact HB.out | apply below_alloc | apply pw_below_drewN | apply below_drew1) | exact HB.out)⟩⟩
    case rest =>
      as_aux_lemma =>
      clear HC10
      try clear c1
      try clear c2
      try clear p2
      try clear c4
      try clear c8
      try clear c9
      try clear c10
      try clear c11
      try clear c16
      try clear c16b0
      try clear c16b1
      try clear c16b2
      try clear c17
      try clear c17b0
      try clear c17b1
      try clear c18
      try clear c18b0
      try clear c18b1
      try clear c19
      try clear c19b0
      try clear c19b1
      try clear c19b2
      try clear c20
      try clear c20b0
      try clear c20b1
      try clear c21
      try clear c22
      try clear c22b0
      try clear c22b1
      try clear c22b2
      try clear c23
      try clear c23b0
      try clear c23b1
      try clear c24
      try clear c24b0
      try clear c24b1
      try clear c24b2
      obtain ⟨kq, x118_9, rfl, HA, HJ9, HB⟩ := hcut
      cases kq with
      | zero => exact absurd HA.out (by simp [laws_FnSumsOfPrimes.j0])
      | succ kj9 =>
        have H := HA.out
        clear HA
        simp only [laws_FnSumsOfPrimes.j0] at H
        by_cases c25 : x118_9 = true
        · subst c25
          have H1 : (some false) = some r := by rw [if_pos rfl] at H; exact H
          clear H
          have H := H1
          clear H1
          obtain rfl := Option.some.inj H
          go_wp2
          go_ret
          exact ⟨by first | rfl | (simp [errW_none, errW_some] <;> rfl) | (simp [*, errW_none, errW_some] <;> rfl), by repeat (first | (with_reducible first | exact HB.out | apply below_alloc | apply pw_below_drewN | apply below_drew1) | exact HB.out)⟩
        · replace c25 := Bool.eq_false_iff.mpr c25
          subst c25
          have H1 : (if t303 = true then ((impl_IsPrime.f kj9 t301).bind fun bt311 => ((impl_IsPrime.f kj9 t302).bind fun bt313 => (if (wrap64 (t301 + t302)) = t300 then (if t301 > t302 then (some false) else (if bt311.2 = true then (if bt311.1 = true then (if bt313.2 = true then (if bt313.1 = true then (if (Int.tmod t300 2) = 1 then (if t301 = 2 then (if t307 = 1 then (laws_FnSumsOfPrimes.j1 kj9 l1) else (some false)) else (some false)) else (laws_FnSumsOfPrimes.j1 kj9 l1)) else (some false)) else (some false)) else (some false)) else (some false))) else (some false)))) else (laws_FnSumsOfPrimes.j1 kj9 l1)) = some r := by rw [if_neg (show ¬ (false = true) by decide)] at H; exact H
          clear H
          have H := H1
          clear H1
          have HC26 := Aside0.mk H
          clear H
          go_upto_if 119 with (fail)
          go_cut [] (fun wc => ∃ (kq : Nat), Aside0 (laws_FnSumsOfPrimes.j1 kq l1 = some r) ∧ Aside0 (kq ≤ kj9) ∧ Aside0 (Below w.heap.size w wc))
          case first =>
            as_aux_lemma =>
            have H := HC26.out
            clear HC26
            by_cases c27 : t303 = true
            · subst c27
              have H1 : ((impl_IsPrime.f kj9 t301).bind fun bt311 => ((impl_IsPrime.f kj9 t302).bind fun bt313 => (if (wrap64 (t301 + t302)) = t300 then (if t301 > t302 then (some false) else (if bt311.2 = true then (if bt311.1 = true then (if bt313.2 = true then (if bt313.1 = true then (if (Int.tmod t300 2) = 1 then (if t301 = 2 then (if t307 = 1 then (laws_FnSumsOfPrimes.j1 kj9 l1) else (some false)) else (some false)) else (laws_FnSumsOfPrimes.j1 kj9 l1)) else (some false)) else (some false)) else (some false)) else (some false))) else (some false)))) = some r := by rw [if_pos rfl] at H; exact H
              clear H
              have H := H1
              clear H1
              replace H := Option.bind_eq_some_iff.mp H
              obtain ⟨⟨t311, t312⟩, A280, H⟩ := H
              replace H : ((impl_IsPrime.f kj9 t302).bind fun bt313 => (if (wrap64 (t301 + t302)) = t300 then (if t301 > t302 then (some false) else (if t312 = true then (if t311 = true then (if bt313.2 = true then (if bt313.1 = true then (if (Int.tmod t300 2) = 1 then (if t301 = 2 then (if t307 = 1 then (laws_FnSumsOfPrimes.j1 kj9 l1) else (some false)) else (some false)) else (laws_FnSumsOfPrimes.j1 kj9 l1)) else (some false)) else (some false)) else (some false)) else (some false))) else (some false))) = some r := H
              have A28 := Aside0.mk A280
              clear A280
              replace H := Option.bind_eq_some_iff.mp H
              obtain ⟨⟨t313, t314⟩, A290, H⟩ := H
              replace H : (if (wrap64 (t301 + t302)) = t300 then (if t301 > t302 then (some false) else (if t312 = true then (if t311 = true then (if t314 = true then (if t313 = true then (if (Int.tmod t300 2) = 1 then (if t301 = 2 then (if t307 = 1 then (laws_FnSumsOfPrimes.j1 kj9 l1) else (some false)) else (some false)) else (laws_FnSumsOfPrimes.j1 kj9 l1)) else (some false)) else (some false)) else (some false)) else (some false))) else (some false)) = some r := H
              have A29 := Aside0.mk A290
              clear A290
              by_cases c30 : (wrap64 (t301 + t302)) = t300
              · as_aux_lemma =>
                rw [if_pos c30] at H
                have c30b0 : ((wrap64 (t301 + t302)) == t300) = true := beq_iff_eq.mpr c30
                have c30b1 : ((wrap64 (t301 + t302)) != t300) = false := bne_eq_false_iff_eq.mpr c30
                clear c30
                (first | rw [c30b0] | (simp only [i64_w, i32_w]; rw [c30b0]) | skip)
                by_cases c31 : t301 > t302
                · as_aux_lemma =>
                  rw [if_pos c31] at H
                  have c31b0 : decide (t302 < t301) = true := decide_eq_true c31
                  clear c31
                  obtain rfl := Option.some.inj H
                  go_wp2_with (first | ((with_reducible refine gate_callee (f := 12) rfl ?_); refine goesL_ (some 122) rfl rfl Try.func12 (by kernel_rfl) rfl #[.int .i64 t301] rfl (by (try simp only [List.map_toArray, List.map_cons, List.map_nil]); first | done | rfl | (simp only [List.length_drop, List.length_take]; rfl)) ?_; (with_reducible refine (impl_IsPrime.calls kj9 t301 t311 t312 _ A28.out).mono ?_); rintro e w' ⟨rfl, ⟨nd, rfl⟩⟩; refine ⟨_, rfl, ?_⟩) | ((with_reducible refine gate_callee (f := 12) rfl ?_); refine goesL_ (some 127) rfl rfl Try.func12 (by kernel_rfl) rfl #[.int .i64 t302] rfl (by (try simp only [List.map_toArray, List.map_cons, List.map_nil]); first | done | rfl | (simp only [List.length_drop, List.length_take]; rfl)) ?_; (with_reducible refine (impl_IsPrime.calls kj9 t302 t313 t314 _ A29.out).mono ?_); rintro e w' ⟨rfl, ⟨nd, rfl⟩⟩; refine ⟨_, rfl, ?_⟩))
                  go_ret
                  exact ⟨by first | rfl | (simp [errW_none, errW_some] <;> rfl) | (simp [*, errW_none, errW_some] <;> rfl), by repeat (first | (with_reducible first | exact HB.out | apply below_alloc | apply pw_below_drewN | apply below_drew1) | exact HB.out)⟩
                · as_aux_lemma =>
                  rw [if_neg c31] at H
                  have c31b0 : decide (t302 < t301) = false := decide_eq_false c31
                  clear c31
                  by_cases c32 : t312 = true
                  · subst c32
                    have H1 : (if t311 = true then (if t314 = true then (if t313 = true then (if (Int.tmod t300 2) = 1 then (if t301 = 2 then (if t307 = 1 then (laws_FnSumsOfPrimes.j1 kj9 l1) else (some false)) else (some false)) else (laws_FnSumsOfPrimes.j1 kj9 l1)) else (some false)) else (some false)) else (some false)) = some r := by rw [if_pos rfl] at H; exact H
                    clear H
                    have H := H1
                    clear H1
                    by_cases c33 : t311 = true
                    · subst c33
                      have H1 : (if t314 = true then (if t313 = true then (if (Int.tmod t300 2) = 1 then (if t301 = 2 then (if t307 = 1 then (laws_FnSumsOfPrimes.j1 kj9 l1) else (some false)) else (some false)) else (laws_FnSumsOfPrimes.j1 kj9 l1)) else (some false)) else (some false)) = some r := by rw [if_pos rfl] at H; exact H
                      clear H
                      have H := H1
                      clear H1
                      by_cases c34 : t314 = true
                      · subst c34
                        have H1 : (if t313 = true then (if (Int.tmod t300 2) = 1 then (if t301 = 2 then (if t307 = 1 then (laws_FnSumsOfPrimes.j1 kj9 l1) else (some false)) else (some false)) else (laws_FnSumsOfPrimes.j1 kj9 l1)) else (some false)) = some r := by rw [if_pos rfl] at H; exact H
                        clear H
                        have H := H1
                        clear H1
                        by_cases c35 : t313 = true
                        · subst c35
                          have H1 : (if (Int.tmod t300 2) = 1 then (if t301 = 2 then (if t307 = 1 then (laws_FnSumsOfPrimes.j1 kj9 l1) else (some false)) else (some false)) else (laws_FnSumsOfPrimes.j1 kj9 l1)) = some r := by rw [if_pos rfl] at H; exact H
                          clear H
                          have H := H1
                          clear H1
                          by_cases c36 : (Int.tmod t300 2) = 1
                          · as_aux_lemma =>
                            rw [if_pos c36] at H
                            have c36b0 : ((Int.tmod t300 2) == 1) = true := beq_iff_eq.mpr c36
                            have c36b1 : ((Int.tmod t300 2) != 1) = false := bne_eq_false_iff_eq.mpr c36
                            clear c36
                            by_cases c37 : t301 = 2
                            · as_aux_lemma =>
                              rw [if_pos c37] at H
                              have c37b0 : (t301 == 2) = true := beq_iff_eq.mpr c37
                              have c37b1 : (t301 != 2) = false := bne_eq_false_iff_eq.mpr c37
                              clear c37
                              by_cases c38 : t307 = 1
                              · as_aux_lemma =>
                                rw [if_pos c38] at H
                                have c38b0 : (t307 == 1) = true := beq_iff_eq.mpr c38
                                have c38b1 : (t307 != 1) = false := bne_eq_false_iff_eq.mpr c38
                                clear c38
                                have H' := Aside0.mk H
                                clear H
                                go_wp2_with (first | ((with_reducible refine gate_callee (f := 12) rfl ?_); refine goesL_ (some 122) rfl rfl Try.func12 (by kernel_rfl) rfl #[.int .i64 t301] rfl (by (try simp only [List.map_toArray, List.map_cons, List.map_nil]); first | done | rfl | (simp only [List.length_drop, List.length_take]; rfl)) ?_; (with_reducible refine (impl_IsPrime.calls kj9 t301 true true _ A28.out).mono ?_); rintro e w' ⟨rfl, ⟨nd, rfl⟩⟩; refine ⟨_, rfl, ?_⟩) | ((with_reducible refine gate_callee (f := 12) rfl ?_); refine goesL_ (some 127) rfl rfl Try.func12 (by kernel_rfl) rfl #[.int .i64 t302] rfl (by (try simp only [List.map_toArray, List.map_cons, List.map_nil]); first | done | rfl | (simp only [List.length_drop, List.length_take]; rfl)) ?_; (with_reducible refine (impl_IsPrime.calls kj9 t302 true true _ A29.out).mono ?_); rintro e w' ⟨rfl, ⟨nd, rfl⟩⟩; refine ⟨_, rfl, ?_⟩))
                                go_meet
                                case rel => exact ⟨_, H', ⟨by have := HJ9.out; first | omega | exact Nat.le_refl _⟩, ⟨by repeat (first | (with_reducible first | exact HB.out | apply below_alloc | apply pw_below_drewN | apply below_drew1) | exact HB.out)⟩⟩
                              · as_aux_lemma =>
                                rw [if_neg c38] at H
                                have c38b0 : (t307 == 1) = false := beq_eq_false_iff_ne.mpr c38
                                have c38b1 : (t307 != 1) = true := bne_iff_ne.mpr c38
                                obtain rfl := Option.some.inj H
                                go_wp2_with (first | ((with_reducible refine gate_callee (f := 12) rfl ?_); refine goesL_ (some 122) rfl rfl Try.func12 (by kernel_rfl) rfl #[.int .i64 t301] rfl (by (try simp only [List.map_toArray, List.map_cons, List.map_nil]); first | done | rfl | (simp only [List.length_drop, List.length_take]; rfl)) ?_; (with_reducible refine (impl_IsPrime.calls kj9 t301 true true _ A28.out).mono ?_); rintro e w' ⟨rfl, ⟨nd, rfl⟩⟩; refine ⟨_, rfl, ?_⟩) | ((with_reducible refine gate_callee (f := 12) rfl ?_); refine goesL_ (some 127) rfl rfl Try.func12 (by kernel_rfl) rfl #[.int .i64 t302] rfl (by (try simp only [List.map_toArray, List.map_cons, List.map_nil]); first | done | rfl | (simp only [List.length_drop, List.length_take]; rfl)) ?_; (with_reducible refine (impl_IsPrime.calls kj9 t302 true true _ A29.out).mono ?_); rintro e w' ⟨rfl, ⟨nd, rfl⟩⟩; refine ⟨_, rfl, ?_⟩))
                                go_ret
                                exact ⟨by first | rfl | (simp [errW_none, errW_some] <;> rfl) | (simp [*, errW_none, errW_some] <;> rfl), by repeat (first | (with_reducible first | exact HB.out | apply below_alloc | apply pw_below_drewN | apply below_drew1) | exact HB.out)⟩
                            · as_aux_lemma =>
                              rw [if_neg c37] at H
                              have c37b0 : (t301 == 2) = false := beq_eq_false_iff_ne.mpr c37
                              have c37b1 : (t301 != 2) = true := bne_iff_ne.mpr c37
                              obtain rfl := Option.some.inj H
                              go_wp2_with (first | ((with_reducible refine gate_callee (f := 12) rfl ?_); refine goesL_ (some 122) rfl rfl Try.func12 (by kernel_rfl) rfl #[.int .i64 t301] rfl (by (try simp only [List.map_toArray, List.map_cons, List.map_nil]); first | done | rfl | (simp only [List.length_drop, List.length_take]; rfl)) ?_; (with_reducible refine (impl_IsPrime.calls kj9 t301 true true _ A28.out).mono ?_); rintro e w' ⟨rfl, ⟨nd, rfl⟩⟩; refine ⟨_, rfl, ?_⟩) | ((with_reducible refine gate_callee (f := 12) rfl ?_); refine goesL_ (some 127) rfl rfl Try.func12 (by kernel_rfl) rfl #[.int .i64 t302] rfl (by (try simp only [List.map_toArray, List.map_cons, List.map_nil]); first | done | rfl | (simp only [List.length_drop, List.length_take]; rfl)) ?_; (with_reducible refine (impl_IsPrime.calls kj9 t302 true true _ A29.out).mono ?_); rintro e w' ⟨rfl, ⟨nd, rfl⟩⟩; refine ⟨_, rfl, ?_⟩))
                              go_ret
                              exact ⟨by first | rfl | (simp [errW_none, errW_some] <;> rfl) | (simp [*, errW_none, errW_some] <;> rfl), by repeat (first | (with_reducible first | exact HB.out | apply below_alloc | apply pw_below_drewN | apply below_drew1) | exact HB.out)⟩
                          · as_aux_lemma =>
                            rw [if_neg c36] at H
                            have c36b0 : ((Int.tmod t300 2) == 1) = false := beq_eq_false_iff_ne.mpr c36
                            have c36b1 : ((Int.tmod t300 2) != 1) = true := bne_iff_ne.mpr c36
                            have H' := Aside0.mk H
                            clear H
                            go_wp2_with (first | ((with_reducible refine gate_callee (f := 12) rfl ?_); refine goesL_ (some 122) rfl rfl Try.func12 (by kernel_rfl) rfl #[.int .i64 t301] rfl (by (try simp only [List.map_toArray, List.map_cons, List.map_nil]); first | done | rfl | (simp only [List.length_drop, List.length_take]; rfl)) ?_; (with_reducible refine (impl_IsPrime.calls kj9 t301 true true _ A28.out).mono ?_); rintro e w' ⟨rfl, ⟨nd, rfl⟩⟩; refine ⟨_, rfl, ?_⟩) | ((with_reducible refine gate_callee (f := 12) rfl ?_); refine goesL_ (some 127) rfl rfl Try.func12 (by kernel_rfl) rfl #[.int .i64 t302] rfl (by (try simp only [List.map_toArray, List.map_cons, List.map_nil]); first | done | rfl | (simp only [List.length_drop, List.length_take]; rfl)) ?_; (with_reducible refine (impl_IsPrime.calls kj9 t302 true true _ A29.out).mono ?_); rintro e w' ⟨rfl, ⟨nd, rfl⟩⟩; refine ⟨_, rfl, ?_⟩))
                            go_meet
                            case rel => exact ⟨_, H', ⟨by have := HJ9.out; first | omega | exact Nat.le_refl _⟩, ⟨by repeat (first | (with_reducible first | exact HB.out | apply below_alloc | apply pw_below_drewN | apply below_drew1) | exact HB.out)⟩⟩
                        · replace c35 := Bool.eq_false_iff.mpr c35
                          subst c35
                          have H1 : (some false) = some r := by rw [if_neg (show ¬ (false = true) by decide)] at H; exact H
                          clear H
                          have H := H1
                          clear H1
                          obtain rfl := Option.some.inj H
                          go_wp2_with (first | ((with_reducible refine gate_callee (f := 12) rfl ?_); refine goesL_ (some 122) rfl rfl Try.func12 (by kernel_rfl) rfl #[.int .i64 t301] rfl (by (try simp only [List.map_toArray, List.map_cons, List.map_nil]); first | done | rfl | (simp only [List.length_drop, List.length_take]; rfl)) ?_; (with_reducible refine (impl_IsPrime.calls kj9 t301 true true _ A28.out).mono ?_); rintro e w' ⟨rfl, ⟨nd, rfl⟩⟩; refine ⟨_, rfl, ?_⟩) | ((with_reducible refine gate_callee (f := 12) rfl ?_); refine goesL_ (some 127) rfl rfl Try.func12 (by kernel_rfl) rfl #[.int .i64 t302] rfl (by (try simp only [List.map_toArray, List.map_cons, List.map_nil]); first | done | rfl | (simp only [List.length_drop, List.length_take]; rfl)) ?_; (with_reducible refine (impl_IsPrime.calls kj9 t302 false true _ A29.out).mono ?_); rintro e w' ⟨rfl, ⟨nd, rfl⟩⟩; refine ⟨_, rfl, ?_⟩))
                          go_ret
                          exact ⟨by first | rfl | (simp [errW_none, errW_some] <;> rfl) | (simp [*, errW_none, errW_some] <;> rfl), by repeat (first | (with_reducible first | exact HB.out | apply below_alloc | apply pw_below_drewN | apply below_drew1) | exact HB.out)⟩
                      · replace c34 := Bool.eq_false_iff.mpr c34
                        subst c34
                        have H1 : (some false) = some r := by rw [if_neg (show ¬ (false = true) by decide)] at H; exact H
                        clear H
                        have H := H1
                        clear H1
                        obtain rfl := Option.some.inj H
                        go_wp2_with (first | ((with_reducible refine gate_callee (f := 12) rfl ?_); refine goesL_ (some 122) rfl rfl Try.func12 (by kernel_rfl) rfl #[.int .i64 t301] rfl (by (try simp only [List.map_toArray, List.map_cons, List.map_nil]); first | done | rfl | (simp only [List.length_drop, List.length_take]; rfl)) ?_; (with_reducible refine (impl_IsPrime.calls kj9 t301 true true _ A28.out).mono ?_); rintro e w' ⟨rfl, ⟨nd, rfl⟩⟩; refine ⟨_, rfl, ?_⟩) | ((with_reducible refine gate_callee (f := 12) rfl ?_); refine goesL_ (some 127) rfl rfl Try.func12 (by kernel_rfl) rfl #[.int .i64 t302] rfl (by (try simp only [List.map_toArray, List.map_cons, List.map_nil]); first | done | rfl | (simp only [List.length_drop, List.length_take]; rfl)) ?_; (with_reducible refine (impl_IsPrime.calls kj9 t302 t313 false _ A29.out).mono ?_); rintro e w' ⟨rfl, ⟨nd, rfl⟩⟩; refine ⟨_, rfl, ?_⟩))
                        go_ret
                        exact ⟨by first | rfl | (simp [errW_none, errW_some] <;> rfl) | (simp [*, errW_none, errW_some] <;> rfl), by repeat (first | (with_reducible first | exact HB.out | apply below_alloc | apply pw_below_drewN | apply below_drew1) | exact HB.out)⟩
                    · replace c33 := Bool.eq_false_iff.mpr c33
                      subst c33
                      have H1 : (some false) = some r := by rw [if_neg (show ¬ (false = true) by decide)] at H; exact H
                      clear H
                      have H := H1
                      clear H1
                      obtain rfl := Option.some.inj H
                      go_wp2_with (first | ((with_reducible refine gate_callee (f := 12) rfl ?_); refine goesL_ (some 122) rfl rfl Try.func12 (by kernel_rfl) rfl #[.int .i64 t301] rfl (by (try simp only [List.map_toArray, List.map_cons, List.map_nil]); first | done | rfl | (simp only [List.length_drop, List.length_take]; rfl)) ?_; (with_reducible refine (impl_IsPrime.calls kj9 t301 false true _ A28.out).mono ?_); rintro e w' ⟨rfl, ⟨nd, rfl⟩⟩; refine ⟨_, rfl, ?_⟩) | ((with_reducible refine gate_callee (f := 12) rfl ?_); refine goesL_ (some 127) rfl rfl Try.func12 (by kernel_rfl) rfl #[.int .i64 t302] rfl (by (try simp only [List.map_toArray, List.map_cons, List.map_nil]); first | done | rfl | (simp only [List.length_drop, List.length_take]; rfl)) ?_; (with_reducible refine (impl_IsPrime.calls kj9 t302 t313 t314 _ A29.out).mono ?_); rintro e w' ⟨rfl, ⟨nd, rfl⟩⟩; refine ⟨_, rfl, ?_⟩))
                      go_ret
                      exact ⟨by first | rfl | (simp [errW_none, errW_some] <;> rfl) | (simp [*, errW_none, errW_some] <;> rfl), by repeat (first | (with_reducible first | exact HB.out | apply below_alloc | apply pw_below_drewN | apply below_drew1) | exact HB.out)⟩
                  · replace c32 := Bool.eq_false_iff.mpr c32
                    subst c32
                    have H1 : (some false) = some r := by rw [if_neg (show ¬ (false = true) by decide)] at H; exact H
                    clear H
                    have H := H1
                    clear H1
                    obtain rfl := Option.some.inj H
                    go_wp2_with (first | ((with_reducible refine gate_callee (f := 12) rfl ?_); refine goesL_ (some 122) rfl rfl Try.func12 (by kernel_rfl) rfl #[.int .i64 t301] rfl (by (try simp only [List.map_toArray, List.map_cons, List.map_nil]); first | done | rfl | (simp only [List.length_drop, List.length_take]; rfl)) ?_; (with_reducible refine (impl_IsPrime.calls kj9 t301 t311 false _ A28.out).mono ?_); rintro e w' ⟨rfl, ⟨nd, rfl⟩⟩; refine ⟨_, rfl, ?_⟩) | ((with_reducible refine gate_callee (f := 12) rfl ?_); refine goesL_ (some 127) rfl rfl Try.func12 (by kernel_rfl) rfl #[.int .i64 t302] rfl (by (try simp only [List.map_toArray, List.map_cons, List.map_nil]); first | done | rfl | (simp only [List.length_drop, List.length_take]; rfl)) ?_; (with_reducible refine (impl_IsPrime.calls kj9 t302 t313 t314 _ A29.out).mono ?_); rintro e w' ⟨rfl, ⟨nd, rfl⟩⟩; refine ⟨_, rfl, ?_⟩))
                    go_ret
                    exact ⟨by first | rfl | (simp [errW_none, errW_some] <;> rfl) | (simp [*, errW_none, errW_some] <;> rfl), by repeat (first | (with_reducible first | exact HB.out | apply below_alloc | apply pw_below_drewN | apply below_drew1) | exact HB.out)⟩
              · as_aux_lemma =>
                rw [if_neg c30] at H
                have c30b0 : ((wrap64 (t301 + t302)) == t300) = false := beq_eq_false_iff_ne.mpr c30
                have c30b1 : ((wrap64 (t301 + t302)) != t300) = true := bne_iff_ne.mpr c30
                (first | rw [c30b0] | (simp only [i64_w, i32_w]; rw [c30b0]) | skip)
                obtain rfl := Option.some.inj H
                go_wp2_with (first | ((with_reducible refine gate_callee (f := 12) rfl ?_); refine goesL_ (some 122) rfl rfl Try.func12 (by kernel_rfl) rfl #[.int .i64 t301] rfl (by (try simp only [List.map_toArray, List.map_cons, List.map_nil]); first | done | rfl | (simp only [List.length_drop, List.length_take]; rfl)) ?_; (with_reducible refine (impl_IsPrime.calls kj9 t301 t311 t312 _ A28.out).mono ?_); rintro e w' ⟨rfl, ⟨nd, rfl⟩⟩; refine ⟨_, rfl, ?_⟩) | ((with_reducible refine gate_callee (f := 12) rfl ?_); refine goesL_ (some 127) rfl rfl Try.func12 (by kernel_rfl) rfl #[.int .i64 t302] rfl (by (try simp only [List.map_toArray, List.map_cons, List.map_nil]); first | done | rfl | (simp only [List.length_drop, List.length_take]; rfl)) ?_; (with_reducible refine (impl_IsPrime.calls kj9 t302 t313 t314 _ A29.out).mono ?_); rintro e w' ⟨rfl, ⟨nd, rfl⟩⟩; refine ⟨_, rfl, ?_⟩))
                go_ret
                exact ⟨by first | rfl | (simp [errW_none, errW_some] <;> rfl) | (simp [*, errW_none, errW_some] <;> rfl), by repeat (first | (with_reducible first | exact HB.out | apply below_alloc | apply pw_below_drewN | apply below_drew1) | exact HB.out)⟩
            · replace c27 := Bool.eq_false_iff.mpr c27
              subst c27
              have H1 : (laws_FnSumsOfPrimes.j1 kj9 l1) = some r := by rw [if_neg (show ¬ (false = true) by decide)] at H; exact H
              clear H
              have H := H1
              clear H1
              have H' := Aside0.mk H
              clear H
              go_wp2
              go_meet
              case rel => exact ⟨_, H', ⟨by have := HJ9.out; first | omega | exact Nat.le_refl _⟩, ⟨by repeat (first | (with_reducible first | exact HB.out | apply below_alloc | apply pw_below_drewN | apply below_drew1) | exact HB.out)⟩⟩
          case rest =>
            as_aux_lemma =>
            clear HC26
            try clear c1
            try clear c2
            try clear p2
            try clear c3
            try clear c4
            try clear p6
            try clear c8
            try clear c9
            try clear c10
            try clear c11
            try clear c12
            try clear c16
            try clear c16b0
            try clear c16b1
            try clear c16b2
            try clear c17
            try clear c17b0
            try clear c17b1
            try clear c18
            try clear c18b0
            try clear c18b1
            try clear c19
            try clear c19b0
            try clear c19b1
            try clear c19b2
            try clear c20
            try clear c20b0
            try clear c20b1
            try clear c21
            try clear c22
            try clear c22b0
            try clear c22b1
            try clear c22b2
            try clear c23
            try clear c23b0
            try clear c23b1
            try clear c24
            try clear c24b0
            try clear c24b1
            try clear c24b2
            try clear c25
            try clear c27
            try clear c30
            try clear c30b0
            try clear c30b1
            try clear c31
            try clear c31b0
            try clear c32
            try clear c33
            try clear c34
            try clear c35
            try clear c36
            try clear c36b0
            try clear c36b1
            try clear c37
            try clear c37b0
            try clear c37b1
            try clear c38
            try clear c38b0
            try clear c38b1
            try clear p2
            obtain ⟨kq, HA, HJ25, HB⟩ := hcut
            cases kq with
            | zero => exact absurd HA.out (by simp [laws_FnSumsOfPrimes.j1])
            | succ kj25 =>
              have H := HA.out
              clear HA
              simp only [laws_FnSumsOfPrimes.j1] at H
              replace H := Option.bind_eq_some_iff.mp H
              obtain ⟨t315, A390, H⟩ := H
              replace H : ((impl_TwinsUpTo.f kj25 t315).bind fun bt316 => ((spec_TwinsUpTo.f kj25 t315).bind fun bt320 => ((impl_CrossersUpTo.f kj25 t315).bind fun bt324 => ((spec_CrossersUpTo.f kj25 t315).bind fun bt328 => ((spec_DrawSmoothUpTo.f l1).bind fun bt332 => ((impl_SmoothUpTo.f kj25 bt332.1 bt332.2).bind fun bt334 => ((spec_SmoothUpTo.f kj25 bt332.1 bt332.2).bind fun bt338 => (if (bt316.2 != bt320.2) = true then (laws_FnSumsOfPrimes.j2 kj25 t315 bt316.1 bt324.1 bt332.1 bt332.2 bt334.1 bt334.2 true) else ((laws_gSame.f kj25 bt316.1 bt320.1).bind fun t342 => (if t342 = true then (if (bt324.2 != bt328.2) = true then (laws_FnSumsOfPrimes.j2 kj25 t315 bt316.1 bt324.1 bt332.1 bt332.2 bt334.1 bt334.2 true) else ((laws_gSame.f kj25 bt324.1 bt328.1).bind fun t343 => (if t343 = true then (if (bt334.2 != bt338.2) = true then (laws_FnSumsOfPrimes.j2 kj25 t315 bt316.1 bt324.1 bt332.1 bt332.2 bt334.1 bt334.2 true) else ((laws_gSame.f kj25 bt334.1 bt338.1).bind fun t344 => (if t344 = true then (laws_FnSumsOfPrimes.j2 kj25 t315 bt316.1 bt324.1 bt332.1 bt332.2 bt334.1 bt334.2 (bt316.2 != bt324.2)) else (laws_FnSumsOfPrimes.j2 kj25 t315 bt316.1 bt324.1 bt332.1 bt332.2 bt334.1 bt334.2 true)))) else (laws_FnSumsOfPrimes.j2 kj25 t315 bt316.1 bt324.1 bt332.1 bt332.2 bt334.1 bt334.2 true)))) else (laws_FnSumsOfPrimes.j2 kj25 t315 bt316.1 bt324.1 bt332.1 bt332.2 bt334.1 bt334.2 true))))))))))) = some r := H
              have A39 := Aside0.mk A390
              clear A390
              replace H := Option.bind_eq_some_iff.mp H
              obtain ⟨⟨t316, t317⟩, A400, H⟩ := H
              replace H : ((spec_TwinsUpTo.f kj25 t315).bind fun bt320 => ((impl_CrossersUpTo.f kj25 t315).bind fun bt324 => ((spec_CrossersUpTo.f kj25 t315).bind fun bt328 => ((spec_DrawSmoothUpTo.f l1).bind fun bt332 => ((impl_SmoothUpTo.f kj25 bt332.1 bt332.2).bind fun bt334 => ((spec_SmoothUpTo.f kj25 bt332.1 bt332.2).bind fun bt338 => (if (t317 != bt320.2) = true then (laws_FnSumsOfPrimes.j2 kj25 t315 t316 bt324.1 bt332.1 bt332.2 bt334.1 bt334.2 true) else ((laws_gSame.f kj25 t316 bt320.1).bind fun t342 => (if t342 = true then (if (bt324.2 != bt328.2) = true then (laws_FnSumsOfPrimes.j2 kj25 t315 t316 bt324.1 bt332.1 bt332.2 bt334.1 bt334.2 true) else ((laws_gSame.f kj25 bt324.1 bt328.1).bind fun t343 => (if t343 = true then (if (bt334.2 != bt338.2) = true then (laws_FnSumsOfPrimes.j2 kj25 t315 t316 bt324.1 bt332.1 bt332.2 bt334.1 bt334.2 true) else ((laws_gSame.f kj25 bt334.1 bt338.1).bind fun t344 => (if t344 = true then (laws_FnSumsOfPrimes.j2 kj25 t315 t316 bt324.1 bt332.1 bt332.2 bt334.1 bt334.2 (t317 != bt324.2)) else (laws_FnSumsOfPrimes.j2 kj25 t315 t316 bt324.1 bt332.1 bt332.2 bt334.1 bt334.2 true)))) else (laws_FnSumsOfPrimes.j2 kj25 t315 t316 bt324.1 bt332.1 bt332.2 bt334.1 bt334.2 true)))) else (laws_FnSumsOfPrimes.j2 kj25 t315 t316 bt324.1 bt332.1 bt332.2 bt334.1 bt334.2 true)))))))))) = some r := H
              have A40 := Aside0.mk A400
              clear A400
              replace H := Option.bind_eq_some_iff.mp H
              obtain ⟨⟨t320, t321⟩, A410, H⟩ := H
              replace H : ((impl_CrossersUpTo.f kj25 t315).bind fun bt324 => ((spec_CrossersUpTo.f kj25 t315).bind fun bt328 => ((spec_DrawSmoothUpTo.f l1).bind fun bt332 => ((impl_SmoothUpTo.f kj25 bt332.1 bt332.2).bind fun bt334 => ((spec_SmoothUpTo.f kj25 bt332.1 bt332.2).bind fun bt338 => (if (t317 != t321) = true then (laws_FnSumsOfPrimes.j2 kj25 t315 t316 bt324.1 bt332.1 bt332.2 bt334.1 bt334.2 true) else ((laws_gSame.f kj25 t316 t320).bind fun t342 => (if t342 = true then (if (bt324.2 != bt328.2) = true then (laws_FnSumsOfPrimes.j2 kj25 t315 t316 bt324.1 bt332.1 bt332.2 bt334.1 bt334.2 true) else ((laws_gSame.f kj25 bt324.1 bt328.1).bind fun t343 => (if t343 = true then (if (bt334.2 != bt338.2) = true then (laws_FnSumsOfPrimes.j2 kj25 t315 t316 bt324.1 bt332.1 bt332.2 bt334.1 bt334.2 true) else ((laws_gSame.f kj25 bt334.1 bt338.1).bind fun t344 => (if t344 = true then (laws_FnSumsOfPrimes.j2 kj25 t315 t316 bt324.1 bt332.1 bt332.2 bt334.1 bt334.2 (t317 != bt324.2)) else (laws_FnSumsOfPrimes.j2 kj25 t315 t316 bt324.1 bt332.1 bt332.2 bt334.1 bt334.2 true)))) else (laws_FnSumsOfPrimes.j2 kj25 t315 t316 bt324.1 bt332.1 bt332.2 bt334.1 bt334.2 true)))) else (laws_FnSumsOfPrimes.j2 kj25 t315 t316 bt324.1 bt332.1 bt332.2 bt334.1 bt334.2 true))))))))) = some r := H
              have A41 := Aside0.mk A410
              clear A410
              replace H := Option.bind_eq_some_iff.mp H
              obtain ⟨⟨t324, t325⟩, A420, H⟩ := H
              replace H : ((spec_CrossersUpTo.f kj25 t315).bind fun bt328 => ((spec_DrawSmoothUpTo.f l1).bind fun bt332 => ((impl_SmoothUpTo.f kj25 bt332.1 bt332.2).bind fun bt334 => ((spec_SmoothUpTo.f kj25 bt332.1 bt332.2).bind fun bt338 => (if (t317 != t321) = true then (laws_FnSumsOfPrimes.j2 kj25 t315 t316 t324 bt332.1 bt332.2 bt334.1 bt334.2 true) else ((laws_gSame.f kj25 t316 t320).bind fun t342 => (if t342 = true then (if (t325 != bt328.2) = true then (laws_FnSumsOfPrimes.j2 kj25 t315 t316 t324 bt332.1 bt332.2 bt334.1 bt334.2 true) else ((laws_gSame.f kj25 t324 bt328.1).bind fun t343 => (if t343 = true then (if (bt334.2 != bt338.2) = true then (laws_FnSumsOfPrimes.j2 kj25 t315 t316 t324 bt332.1 bt332.2 bt334.1 bt334.2 true) else ((laws_gSame.f kj25 bt334.1 bt338.1).bind fun t344 => (if t344 = true then (laws_FnSumsOfPrimes.j2 kj25 t315 t316 t324 bt332.1 bt332.2 bt334.1 bt334.2 (t317 != t325)) else (laws_FnSumsOfPrimes.j2 kj25 t315 t316 t324 bt332.1 bt332.2 bt334.1 bt334.2 true)))) else (laws_FnSumsOfPrimes.j2 kj25 t315 t316 t324 bt332.1 bt332.2 bt334.1 bt334.2 true)))) else (laws_FnSumsOfPrimes.j2 kj25 t315 t316 t324 bt332.1 bt332.2 bt334.1 bt334.2 true)))))))) = some r := H
              have A42 := Aside0.mk A420
              clear A420
              replace H := Option.bind_eq_some_iff.mp H
              obtain ⟨⟨t328, t329⟩, A430, H⟩ := H
              replace H : ((spec_DrawSmoothUpTo.f l1).bind fun bt332 => ((impl_SmoothUpTo.f kj25 bt332.1 bt332.2).bind fun bt334 => ((spec_SmoothUpTo.f kj25 bt332.1 bt332.2).bind fun bt338 => (if (t317 != t321) = true then (laws_FnSumsOfPrimes.j2 kj25 t315 t316 t324 bt332.1 bt332.2 bt334.1 bt334.2 true) else ((laws_gSame.f kj25 t316 t320).bind fun t342 => (if t342 = true then (if (t325 != t329) = true then (laws_FnSumsOfPrimes.j2 kj25 t315 t316 t324 bt332.1 bt332.2 bt334.1 bt334.2 true) else ((laws_gSame.f kj25 t324 t328).bind fun t343 => (if t343 = true then (if (bt334.2 != bt338.2) = true then (laws_FnSumsOfPrimes.j2 kj25 t315 t316 t324 bt332.1 bt332.2 bt334.1 bt334.2 true) else ((laws_gSame.f kj25 bt334.1 bt338.1).bind fun t344 => (if t344 = true then (laws_FnSumsOfPrimes.j2 kj25 t315 t316 t324 bt332.1 bt332.2 bt334.1 bt334.2 (t317 != t325)) else (laws_FnSumsOfPrimes.j2 kj25 t315 t316 t324 bt332.1 bt332.2 bt334.1 bt334.2 true)))) else (laws_FnSumsOfPrimes.j2 kj25 t315 t316 t324 bt332.1 bt332.2 bt334.1 bt334.2 true)))) else (laws_FnSumsOfPrimes.j2 kj25 t315 t316 t324 bt332.1 bt332.2 bt334.1 bt334.2 true))))))) = some r := H
              have A43 := Aside0.mk A430
              clear A430
              replace H := Option.bind_eq_some_iff.mp H
              obtain ⟨⟨t332, t333⟩, A440, H⟩ := H
              replace H : ((impl_SmoothUpTo.f kj25 t332 t333).bind fun bt334 => ((spec_SmoothUpTo.f kj25 t332 t333).bind fun bt338 => (if (t317 != t321) = true then (laws_FnSumsOfPrimes.j2 kj25 t315 t316 t324 t332 t333 bt334.1 bt334.2 true) else ((laws_gSame.f kj25 t316 t320).bind fun t342 => (if t342 = true then (if (t325 != t329) = true then (laws_FnSumsOfPrimes.j2 kj25 t315 t316 t324 t332 t333 bt334.1 bt334.2 true) else ((laws_gSame.f kj25 t324 t328).bind fun t343 => (if t343 = true then (if (bt334.2 != bt338.2) = true then (laws_FnSumsOfPrimes.j2 kj25 t315 t316 t324 t332 t333 bt334.1 bt334.2 true) else ((laws_gSame.f kj25 bt334.1 bt338.1).bind fun t344 => (if t344 = true then (laws_FnSumsOfPrimes.j2 kj25 t315 t316 t324 t332 t333 bt334.1 bt334.2 (t317 != t325)) else (laws_FnSumsOfPrimes.j2 kj25 t315 t316 t324 t332 t333 bt334.1 bt334.2 true)))) else (laws_FnSumsOfPrimes.j2 kj25 t315 t316 t324 t332 t333 bt334.1 bt334.2 true)))) else (laws_FnSumsOfPrimes.j2 kj25 t315 t316 t324 t332 t333 bt334.1 bt334.2 true)))))) = some r := H
              have A44 := Aside0.mk A440
              clear A440
              replace H := Option.bind_eq_some_iff.mp H
              obtain ⟨⟨t334, t335⟩, A450, H⟩ := H
              replace H : ((spec_SmoothUpTo.f kj25 t332 t333).bind fun bt338 => (if (t317 != t321) = true then (laws_FnSumsOfPrimes.j2 kj25 t315 t316 t324 t332 t333 t334 t335 true) else ((laws_gSame.f kj25 t316 t320).bind fun t342 => (if t342 = true then (if (t325 != t329) = true then (laws_FnSumsOfPrimes.j2 kj25 t315 t316 t324 t332 t333 t334 t335 true) else ((laws_gSame.f kj25 t324 t328).bind fun t343 => (if t343 = true then (if (t335 != bt338.2) = true then (laws_FnSumsOfPrimes.j2 kj25 t315 t316 t324 t332 t333 t334 t335 true) else ((laws_gSame.f kj25 t334 bt338.1).bind fun t344 => (if t344 = true then (laws_FnSumsOfPrimes.j2 kj25 t315 t316 t324 t332 t333 t334 t335 (t317 != t325)) else (laws_FnSumsOfPrimes.j2 kj25 t315 t316 t324 t332 t333 t334 t335 true)))) else (laws_FnSumsOfPrimes.j2 kj25 t315 t316 t324 t332 t333 t334 t335 true)))) else (laws_FnSumsOfPrimes.j2 kj25 t315 t316 t324 t332 t333 t334 t335 true))))) = some r := H
              have A45 := Aside0.mk A450
              clear A450
              replace H := Option.bind_eq_some_iff.mp H
              obtain ⟨⟨t338, t339⟩, A460, H⟩ := H
              replace H : (if (t317 != t321) = true then (laws_FnSumsOfPrimes.j2 kj25 t315 t316 t324 t332 t333 t334 t335 true) else ((laws_gSame.f kj25 t316 t320).bind fun t342 => (if t342 = true then (if (t325 != t329) = true then (laws_FnSumsOfPrimes.j2 kj25 t315 t316 t324 t332 t333 t334 t335 true) else ((laws_gSame.f kj25 t324 t328).bind fun t343 => (if t343 = true then (if (t335 != t339) = true then (laws_FnSumsOfPrimes.j2 kj25 t315 t316 t324 t332 t333 t334 t335 true) else ((laws_gSame.f kj25 t334 t338).bind fun t344 => (if t344 = true then (laws_FnSumsOfPrimes.j2 kj25 t315 t316 t324 t332 t333 t334 t335 (t317 != t325)) else (laws_FnSumsOfPrimes.j2 kj25 t315 t316 t324 t332 t333 t334 t335 true)))) else (laws_FnSumsOfPrimes.j2 kj25 t315 t316 t324 t332 t333 t334 t335 true)))) else (laws_FnSumsOfPrimes.j2 kj25 t315 t316 t324 t332 t333 t334 t335 true)))) = some r := H
              have A46 := Aside0.mk A460
              clear A460
              have HC47 := Aside0.mk H
              clear H
              go_upto_region 23 with (first | ((with_reducible refine gate_callee (f := 24) rfl ?_); refine goesL_ (some 170) rfl rfl Try.func24 (by kernel_rfl) rfl #[.slice A1 l1.length c1] rfl (by (try simp only [List.map_toArray, List.map_cons, List.map_nil]); first | done | rfl | (simp only [List.length_drop, List.length_take]; rfl)) ?_; (with_reducible refine (spec_DrawTwinsUpTo.calls _ _ l1 t315 _ ?side1 ?side2 A39.out).mono ?_); (case side1 => repeat (first | exact (Kd.C_below HR1.out HB.out) | (with_reducible refine Kd.C_alloc ?_ _) | (with_reducible refine Kd.C_drewN ?_ _) | (with_reducible refine Kd.C_drew ?_))); (case side2 => exact HC1.out); rintro e w48 ⟨rfl, hb⟩; refine ⟨_, rfl, ?_⟩; have n0_ := Aside0.mk (below_step (by repeat (first | (with_reducible first | exact HB.out | apply below_alloc | apply pw_below_drewN | apply below_drew1) | exact HB.out)) hb); clear HB; have HB := n0_; clear n0_; (try clear hb); (try clear hb2); (try clear hk); (try clear hi)) | ((with_reducible refine gate_callee (f := 13) rfl ?_); refine goesL_ (some 173) rfl rfl Try.func13 (by kernel_rfl) rfl #[.int .i64 t315] rfl (by (try simp only [List.map_toArray, List.map_cons, List.map_nil]); first | done | rfl | (simp only [List.length_drop, List.length_take]; rfl)) ?_; (with_reducible refine (impl_TwinsUpTo.calls kj25 t315 t316 t317 _ A40.out).mono ?_); rintro e w49 ⟨v318, rfl, ho0, hb⟩; refine ⟨_, rfl, ?_⟩; have n0_ := Aside0.mk (Kd.R_lower ho0 (below_size (by repeat (first | (with_reducible first | exact HB.out | apply below_alloc | apply pw_below_drewN | apply below_drew1) | exact HB.out)))); have n1_ := Aside0.mk (below_step (by repeat (first | (with_reducible first | exact HB.out | apply below_alloc | apply pw_below_drewN | apply below_drew1) | exact HB.out)) hb); clear HB; have HO319 := n0_; have HB := n1_; clear n0_ n1_; (try clear hb); (try clear hb2); (try clear hk); (try clear hi); (try clear ho0)) | ((with_reducible refine gate_callee (f := 14) rfl ?_); refine goesL_ (some 178) rfl rfl Try.func14 (by kernel_rfl) rfl #[.int .i64 t315] rfl (by (try simp only [List.map_toArray, List.map_cons, List.map_nil]); first | done | rfl | (simp only [List.length_drop, List.length_take]; rfl)) ?_; (with_reducible refine (spec_TwinsUpTo.calls kj25 t315 t320 t321 _ A41.out).mono ?_); rintro e w50 ⟨v322, rfl, ho0, hb⟩; refine ⟨_, rfl, ?_⟩; have n0_ := Aside0.mk (Kd.R_elder' (by (with_reducible repeat (first | apply Kd.R_alloc | apply Kd.R_drewN | apply Kd.R_drew)); exact HO319.out) (Kd.R_base ho0) hb); have n1_ := Aside0.mk (Kd.R_lower (Kd.R_new' ho0 (Kd.R_lt (by (with_reducible repeat (first | apply Kd.R_alloc | apply Kd.R_drewN | apply Kd.R_drew)); exact HO319.out))) (below_size (by repeat (first | (with_reducible first | exact HB.out | apply below_alloc | apply pw_below_drewN | apply below_drew1) | exact HB.out)))); have n2_ := Aside0.mk (below_step (by repeat (first | (with_reducible first | exact HB.out | apply below_alloc | apply pw_below_drewN | apply below_drew1) | exact HB.out)) hb); clear HO319; clear HB; have HO319 := n0_; have HO323 := n1_; have HB := n2_; clear n0_ n1_ n2_; (try clear hb); (try clear hb2); (try clear hk); (try clear hi); (try clear ho0)) | ((with_reducible refine gate_callee (f := 15) rfl ?_); refine goesL_ (some 183) rfl rfl Try.func15 (by kernel_rfl) rfl #[.int .i64 t315] rfl (by (try simp only [List.map_toArray, List.map_cons, List.map_nil]); first | done | rfl | (simp only [List.length_drop, List.length_take]; rfl)) ?_; (with_reducible refine (impl_CrossersUpTo.calls kj25 t315 t324 t325 _ A42.out).mono ?_); rintro e w51 ⟨v326, rfl, ho0, hb⟩; refine ⟨_, rfl, ?_⟩; have n0_ := Aside0.mk (Kd.R_elder' (by (with_reducible repeat (first | apply Kd.R_alloc | apply Kd.R_drewN | apply Kd.R_drew)); exact HO319.out) (Kd.R_base ho0) hb); have n1_ := Aside0.mk (Kd.R_elder' (by (with_reducible repeat (first | apply Kd.R_alloc | apply Kd.R_drewN | apply Kd.R_drew)); exact HO323.out) (Kd.R_base ho0) hb); have n2_ := Aside0.mk (Kd.R_lower (Kd.R_new' (Kd.R_new' ho0 (Kd.R_lt (by (with_reducible repeat (first | apply Kd.R_alloc | apply Kd.R_drewN | apply Kd.R_drew)); exact HO319.out))) (Kd.R_lt (by (with_reducible repeat (first | apply Kd.R_alloc | apply Kd.R_drewN | apply Kd.R_drew)); exact HO323.out))) (below_size (by repeat (first | (with_reducible first | exact HB.out | apply below_alloc | apply pw_below_drewN | apply below_drew1) | exact HB.out)))); have n3_ := Aside0.mk (below_step (by repeat (first | (with_reducible first | exact HB.out | apply below_alloc | apply pw_below_drewN | apply below_drew1) | exact HB.out)) hb); clear HO319; clear HO323; clear HB; have HO319 := n0_; have HO323 := n1_; have HO327 := n2_; have HB := n3_; clear n0_ n1_ n2_ n3_; (try clear hb); (try clear hb2); (try clear hk); (try clear hi); (try clear ho0)) | ((with_reducible refine gate_callee (f := 16) rfl ?_); refine goesL_ (some 188) rfl rfl Try.func16 (by kernel_rfl) rfl #[.int .i64 t315] rfl (by (try simp only [List.map_toArray, List.map_cons, List.map_nil]); first | done | rfl | (simp only [List.length_drop, List.length_take]; rfl)) ?_; (with_reducible refine (spec_CrossersUpTo.calls kj25 t315 t328 t329 _ A43.out).mono ?_); rintro e w52 ⟨v330, rfl, ho0, hb⟩; refine ⟨_, rfl, ?_⟩; have n0_ := Aside0.mk (Kd.R_elder' (by (with_reducible repeat (first | apply Kd.R_alloc | apply Kd.R_drewN | apply Kd.R_drew)); exact HO319.out) (Kd.R_base ho0) hb); have n1_ := Aside0.mk (Kd.R_elder' (by (with_reducible repeat (first | apply Kd.R_alloc | apply Kd.R_drewN | apply Kd.R_drew)); exact HO323.out) (Kd.R_base ho0) hb); have n2_ := Aside0.mk (Kd.R_elder' (by (with_reducible repeat (first | apply Kd.R_alloc | apply Kd.R_drewN | apply Kd.R_drew)); exact HO327.out) (Kd.R_base ho0) hb); have n3_ := Aside0.mk (Kd.R_lower (Kd.R_new' (Kd.R_new' (Kd.R_new' ho0 (Kd.R_lt (by (with_reducible repeat (first | apply Kd.R_alloc | apply Kd.R_drewN | apply Kd.R_drew)); exact HO319.out))) (Kd.R_lt (by (with_reducible repeat (first | apply Kd.R_alloc | apply Kd.R_drewN | apply Kd.R_drew)); exact HO323.out))) (Kd.R_lt (by (with_reducible repeat (first | apply Kd.R_alloc | apply Kd.R_drewN | apply Kd.R_drew)); exact HO327.out))) (below_size (by repeat (first | (with_reducible first | exact HB.out | apply below_alloc | apply pw_below_drewN | apply below_drew1) | exact HB.out)))); have n4_ := Aside0.mk (below_step (by repeat (first | (with_reducible first | exact HB.out | apply below_alloc | apply pw_below_drewN | apply below_drew1) | exact HB.out)) hb); clear HO319; clear HO323; clear HO327; clear HB; have HO319 := n0_; have HO323 := n1_; have HO327 := n2_; have HO331 := n3_; have HB := n4_; clear n0_ n1_ n2_ n3_ n4_; (try clear hb); (try clear hb2); (try clear hk); (try clear hi); (try clear ho0)) | ((with_reducible refine gate_callee (f := 25) rfl ?_); refine goesL_ (some 193) rfl rfl Try.func25 (by kernel_rfl) rfl #[.slice A1 l1.length c1] rfl (by (try simp only [List.map_toArray, List.map_cons, List.map_nil]); first | done | rfl | (simp only [List.length_drop, List.length_take]; rfl)) ?_; (with_reducible refine (spec_DrawSmoothUpTo.calls _ _ l1 t332 t333 _ ?side1 ?side2 A44.out).mono ?_); (case side1 => repeat (first | exact (Kd.C_below HR1.out HB.out) | (with_reducible refine Kd.C_alloc ?_ _) | (with_reducible refine Kd.C_drewN ?_ _) | (with_reducible refine Kd.C_drew ?_))); (case side2 => exact HC1.out); rintro e w53 ⟨rfl, hb⟩; refine ⟨_, rfl, ?_⟩; have n0_ := Aside0.mk (Kd.R_below (by (with_reducible repeat (first | apply Kd.R_alloc | apply Kd.R_drewN | apply Kd.R_drew)); exact HO319.out) hb); have n1_ := Aside0.mk (Kd.R_below (by (with_reducible repeat (first | apply Kd.R_alloc | apply Kd.R_drewN | apply Kd.R_drew)); exact HO323.out) hb); have n2_ := Aside0.mk (Kd.R_below (by (with_reducible repeat (first | apply Kd.R_alloc | apply Kd.R_drewN | apply Kd.R_drew)); exact HO327.out) hb); have n3_ := Aside0.mk (Kd.R_below (by (with_reducible repeat (first | apply Kd.R_alloc | apply Kd.R_drewN | apply Kd.R_drew)); exact HO331.out) hb); have n4_ := Aside0.mk (below_step (by repeat (first | (with_reducible first | exact HB.out | apply below_alloc | apply pw_below_drewN | apply below_drew1) | exact HB.out)) hb); clear HO319; clear HO323; clear HO327; clear HO331; clear HB; have HO319 := n0_; have HO323 := n1_; have HO327 := n2_; have HO331 := n3_; have HB := n4_; clear n0_ n1_ n2_ n3_ n4_; (try clear hb); (try clear hb2); (try clear hk); (try clear hi)) | ((with_reducible refine gate_callee (f := 17) rfl ?_); refine goesL_ (some 199) rfl rfl Try.func17 (by kernel_rfl) rfl #[.int .i64 t332, .int .i64 t333] rfl (by (try simp only [List.map_toArray, List.map_cons, List.map_nil]); first | done | rfl | (simp only [List.length_drop, List.length_take]; rfl)) ?_; (with_reducible refine (impl_SmoothUpTo.calls kj25 t332 t333 t334 t335 _ A45.out).mono ?_); rintro e w54 ⟨v336, rfl, ho0, hb⟩; refine ⟨_, rfl, ?_⟩; have n0_ := Aside0.mk (Kd.R_elder' (by (with_reducible repeat (first | apply Kd.R_alloc | apply Kd.R_drewN | apply Kd.R_drew)); exact HO319.out) (Kd.R_base ho0) hb); have n1_ := Aside0.mk (Kd.R_elder' (by (with_reducible repeat (first | apply Kd.R_alloc | apply Kd.R_drewN | apply Kd.R_drew)); exact HO323.out) (Kd.R_base ho0) hb); have n2_ := Aside0.mk (Kd.R_elder' (by (with_reducible repeat (first | apply Kd.R_alloc | apply Kd.R_drewN | apply Kd.R_drew)); exact HO327.out) (Kd.R_base ho0) hb); have n3_ := Aside0.mk (Kd.R_elder' (by (with_reducible repeat (first | apply Kd.R_alloc | apply Kd.R_drewN | apply Kd.R_drew)); exact HO331.out) (Kd.R_base ho0) hb); have n4_ := Aside0.mk (Kd.R_lower (Kd.R_new' (Kd.R_new' (Kd.R_new' (Kd.R_new' ho0 (Kd.R_lt (by (with_reducible repeat (first | apply Kd.R_alloc | apply Kd.R_drewN | apply Kd.R_drew)); exact HO319.out))) (Kd.R_lt (by (with_reducible repeat (first | apply Kd.R_alloc | apply Kd.R_drewN | apply Kd.R_drew)); exact HO323.out))) (Kd.R_lt (by (with_reducible repeat (first | apply Kd.R_alloc | apply Kd.R_drewN | apply Kd.R_drew)); exact HO327.out))) (Kd.R_lt (by (with_reducible repeat (first | apply Kd.R_alloc | apply Kd.R_drewN | apply Kd.R_drew)); exact HO331.out))) (below_size (by repeat (first | (with_reducible first | exact HB.out | apply below_alloc | apply pw_below_drewN | apply below_drew1) | exact HB.out)))); have n5_ := Aside0.mk (below_step (by repeat (first | (with_reducible first | exact HB.out | apply below_alloc | apply pw_below_drewN | apply below_drew1) | exact HB.out)) hb); clear HO319; clear HO323; clear HO327; clear HO331; clear HB; have HO319 := n0_; have HO323 := n1_; have HO327 := n2_; have HO331 := n3_; have HO337 := n4_; have HB := n5_; clear n0_ n1_ n2_ n3_ n4_ n5_; (try clear hb); (try clear hb2); (try clear hk); (try clear hi); (try clear ho0)) | ((with_reducible refine gate_callee (f := 18) rfl ?_); refine goesL_ (some 205) rfl rfl Try.func18 (by kernel_rfl) rfl #[.int .i64 t332, .int .i64 t333] rfl (by (try simp only [List.map_toArray, List.map_cons, List.map_nil]); first | done | rfl | (simp only [List.length_drop, List.length_take]; rfl)) ?_; (with_reducible refine (spec_SmoothUpTo.calls kj25 t332 t333 t338 t339 _ A46.out).mono ?_); rintro e w55 ⟨v340, rfl, ho0, hb⟩; refine ⟨_, rfl, ?_⟩; have n0_ := Aside0.mk (Kd.R_elder' (by (with_reducible repeat (first | apply Kd.R_alloc | apply Kd.R_drewN | apply Kd.R_drew)); exact HO319.out) (Kd.R_base ho0) hb); have n1_ := Aside0.mk (Kd.R_elder' (by (with_reducible repeat (first | apply Kd.R_alloc | apply Kd.R_drewN | apply Kd.R_drew)); exact HO323.out) (Kd.R_base ho0) hb); have n2_ := Aside0.mk (Kd.R_elder' (by (with_reducible repeat (first | apply Kd.R_alloc | apply Kd.R_drewN | apply Kd.R_drew)); exact HO327.out) (Kd.R_base ho0) hb); have n3_ := Aside0.mk (Kd.R_elder' (by (with_reducible repeat (first | apply Kd.R_alloc | apply Kd.R_drewN | apply Kd.R_drew)); exact HO331.out) (Kd.R_base ho0) hb); have n4_ := Aside0.mk (Kd.R_elder' (by (with_reducible repeat (first | apply Kd.R_alloc | apply Kd.R_drewN | apply Kd.R_drew)); exact HO337.out) (Kd.R_base ho0) hb); have n5_ := Aside0.mk (Kd.R_lower (Kd.R_new' (Kd.R_new' (Kd.R_new' (Kd.R_new' (Kd.R_new' ho0 (Kd.R_lt (by (with_reducible repeat (first | apply Kd.R_alloc | apply Kd.R_drewN | apply Kd.R_drew)); exact HO319.out))) (Kd.R_lt (by (with_reducible repeat (first | apply Kd.R_alloc | apply Kd.R_drewN | apply Kd.R_drew)); exact HO323.out))) (Kd.R_lt (by (with_reducible repeat (first | apply Kd.R_alloc | apply Kd.R_drewN | apply Kd.R_drew)); exact HO327.out))) (Kd.R_lt (by (with_reducible repeat (first | apply Kd.R_alloc | apply Kd.R_drewN | apply Kd.R_drew)); exact HO331.out))) (Kd.R_lt (by (with_reducible repeat (first | apply Kd.R_alloc | apply Kd.R_drewN | apply Kd.R_drew)); exact HO337.out))) (below_size (by repeat (first | (with_reducible first | exact HB.out | apply below_alloc | apply pw_below_drewN | apply below_drew1) | exact HB.out)))); have n6_ := Aside0.mk (below_step (by repeat (first | (with_reducible first | exact HB.out | apply below_alloc | apply pw_below_drewN | apply below_drew1) | exact HB.out)) hb); clear HO319; clear HO323; clear HO327; clear HO331; clear HO337; clear HB; have HO319 := n0_; have HO323 := n1_; have HO327 := n2_; have HO331 := n3_; have HO337 := n4_; have HO341 := n5_; have HB := n6_; clear n0_ n1_ n2_ n3_ n4_ n5_ n6_; (try clear hb); (try clear hb2); (try clear hk); (try clear hi); (try clear ho0)))
              (try simp only [Act.put, List.setIfInBounds_toArray, List.set_cons_zero, List.set_cons_succ])
              go_cut [243] (fun v243 wc => ∃ (kq : Nat) (x243_46 : Bool), v243 = .bool x243_46 ∧ Aside0 (laws_FnSumsOfPrimes.j2 kq t315 t316 t324 t332 t333 t334 t335 x243_46 = some r) ∧ Aside0 (kq ≤ kj25) ∧ Aside0 (Kd.R (Kd.int .i64) 3 wc w.heap.size (fun k_ => some k_ ≠ (v326 : Value).ownBlock ∧ some k_ ≠ (v336 : Value).ownBlock) v318 t316) ∧ Aside0 (Kd.R (Kd.int .i64) 3 wc w.heap.size (fun k_ => some k_ ≠ (v318 : Value).ownBlock ∧ some k_ ≠ (v336 : Value).ownBlock) v326 t324) ∧ Aside0 (Kd.R (Kd.int .i64) 3 wc w.heap.size (fun k_ => some k_ ≠ (v318 : Value).ownBlock ∧ some k_ ≠ (v326 : Value).ownBlock) v336 t334) ∧ Aside0 (Below w.heap.size w wc))
              case first =>
                as_aux_lemma =>
                have H := HC47.out
                clear HC47
                by_cases c56 : (t317 != t321) = true
                · as_aux_lemma =>
                  rw [if_pos c56] at H
                  have c56b0 : (t317 != t321) = true := c56
                  (try (have c56b1 : decide (t317 = t321) = false := by simpa using c56))
                  (try (have c56b2 : (t317 == t321) = false := by simpa using c56))
                  (try (have c56b3 : ¬ (t317 = t321) := by simpa using c56))
                  clear c56
                  (first | rw [c56b0] | (simp only [i64_w, i32_w]; rw [c56b0]) | skip)
                  have H' := Aside0.mk H
                  clear H
                  go_wp2
                  go_meet
                  case rel => exact ⟨_, (true), (by first | rfl | (simp; done) | (simp [*]; done)), H', ⟨by have := HJ9.out; have := HJ25.out; first | omega | exact Nat.le_refl _⟩, ⟨by (with_reducible repeat (first | apply Kd.R_alloc | apply Kd.R_drewN | apply Kd.R_drew)); exact Kd.R_mono HO319.out (fun _ hk => ⟨hk.1.1.1.2, hk.1.2⟩)⟩, ⟨by (with_reducible repeat (first | apply Kd.R_alloc | apply Kd.R_drewN | apply Kd.R_drew)); exact Kd.R_mono HO327.out (fun _ hk => ⟨hk.1.1.1.1.2, hk.1.2⟩)⟩, ⟨by (with_reducible repeat (first | apply Kd.R_alloc | apply Kd.R_drewN | apply Kd.R_drew)); exact Kd.R_mono HO337.out (fun _ hk => ⟨hk.1.1.1.1.2, hk.1.1.2⟩)⟩, ⟨by repeat (first | (with_reducible first | exact HB.out | apply below_alloc | apply pw_below_drewN | apply below_drew1) | exact HB.out)⟩⟩
                · as_aux_lemma =>
                  rw [if_neg c56] at H
                  have c56b0 : (t317 != t321) = false := by simpa using c56
                  (try (have c56b1 : decide (t317 = t321) = true := by simpa using c56))
                  (try (have c56b2 : (t317 == t321) = true := by simpa using c56))
                  clear c56
                  (first | rw [c56b0] | (simp only [i64_w, i32_w]; rw [c56b0]) | skip)
                  replace H := Option.bind_eq_some_iff.mp H
                  obtain ⟨t342, A570, H⟩ := H
                  replace H : (if t342 = true then (if (t325 != t329) = true then (laws_FnSumsOfPrimes.j2 kj25 t315 t316 t324 t332 t333 t334 t335 true) else ((laws_gSame.f kj25 t324 t328).bind fun t343 => (if t343 = true then (if (t335 != t339) = true then (laws_FnSumsOfPrimes.j2 kj25 t315 t316 t324 t332 t333 t334 t335 true) else ((laws_gSame.f kj25 t334 t338).bind fun t344 => (if t344 = true then (laws_FnSumsOfPrimes.j2 kj25 t315 t316 t324 t332 t333 t334 t335 (t317 != t325)) else (laws_FnSumsOfPrimes.j2 kj25 t315 t316 t324 t332 t333 t334 t335 true)))) else (laws_FnSumsOfPrimes.j2 kj25 t315 t316 t324 t332 t333 t334 t335 true)))) else (laws_FnSumsOfPrimes.j2 kj25 t315 t316 t324 t332 t333 t334 t335 true)) = some r := H
                  have A57 := Aside0.mk A570
                  clear A570
                  by_cases c58 : t342 = true
                  · subst c58
                    have H1 : (if (t325 != t329) = true then (laws_FnSumsOfPrimes.j2 kj25 t315 t316 t324 t332 t333 t334 t335 true) else ((laws_gSame.f kj25 t324 t328).bind fun t343 => (if t343 = true then (if (t335 != t339) = true then (laws_FnSumsOfPrimes.j2 kj25 t315 t316 t324 t332 t333 t334 t335 true) else ((laws_gSame.f kj25 t334 t338).bind fun t344 => (if t344 = true then (laws_FnSumsOfPrimes.j2 kj25 t315 t316 t324 t332 t333 t334 t335 (t317 != t325)) else (laws_FnSumsOfPrimes.j2 kj25 t315 t316 t324 t332 t333 t334 t335 true)))) else (laws_FnSumsOfPrimes.j2 kj25 t315 t316 t324 t332 t333 t334 t335 true)))) = some r := by rw [if_pos rfl] at H; exact H
                    clear H
                    have H := H1
                    clear H1
                    by_cases c59 : (t325 != t329) = true
                    · as_aux_lemma =>
                      rw [if_pos c59] at H
                      have c59b0 : (t325 != t329) = true := c59
                      (try (have c59b1 : decide (t325 = t329) = false := by simpa using c59))
                      (try (have c59b2 : (t325 == t329) = false := by simpa using c59))
                      (try (have c59b3 : ¬ (t325 = t329) := by simpa using c59))
                      clear c59
                      have H' := Aside0.mk H
                      clear H
                      obtain ⟨Ao60, co60, eo60⟩ := Kd.R_slice HO319.out
                      subst eo60
                      obtain ⟨Ao61, co61, eo61⟩ := Kd.R_slice HO323.out
                      subst eo61
                      go_wp2_with (first | (go_at_call 19; (with_reducible refine (laws_gSame.calls kj25 _ _ t316 _ _ t320 true _ ?side1 ?side2 ?side3 ?side4 A57.out).mono ?_); (case side1 => repeat (first | exact (Kd.R_reads' HO319.out).2.2 | (with_reducible refine Kd.C_alloc ?_ _) | (with_reducible refine Kd.C_drewN ?_ _) | (with_reducible refine Kd.C_drew ?_))); (case side2 => exact (Kd.R_reads' HO319.out).2.1); (case side3 => repeat (first | exact (Kd.R_reads' HO323.out).2.2 | (with_reducible refine Kd.C_alloc ?_ _) | (with_reducible refine Kd.C_drewN ?_ _) | (with_reducible refine Kd.C_drew ?_))); (case side4 => exact (Kd.R_reads' HO323.out).2.1); rintro e w' ⟨rfl, ⟨nd, rfl⟩⟩))
                      go_meet
                      case rel => exact ⟨_, (true), (by first | rfl | (simp; done) | (simp [*]; done)), H', ⟨by have := HJ9.out; have := HJ25.out; first | omega | exact Nat.le_refl _⟩, ⟨by (with_reducible repeat (first | apply Kd.R_alloc | apply Kd.R_drewN | apply Kd.R_drew)); exact Kd.R_mono HO319.out (fun _ hk => ⟨hk.1.1.1.2, hk.1.2⟩)⟩, ⟨by (with_reducible repeat (first | apply Kd.R_alloc | apply Kd.R_drewN | apply Kd.R_drew)); exact Kd.R_mono HO327.out (fun _ hk => ⟨hk.1.1.1.1.2, hk.1.2⟩)⟩, ⟨by (with_reducible repeat (first | apply Kd.R_alloc | apply Kd.R_drewN | apply Kd.R_drew)); exact Kd.R_mono HO337.out (fun _ hk => ⟨hk.1.1.1.1.2, hk.1.1.2⟩)⟩, ⟨by repeat (first | (with_reducible first | exact HB.out | apply below_alloc | apply pw_below_drewN | apply below_drew1) | exact HB.out)⟩⟩
                    · as_aux_lemma =>
                      rw [if_neg c59] at H
                      have c59b0 : (t325 != t329) = false := by simpa using c59
                      (try (have c59b1 : decide (t325 = t329) = true := by simpa using c59))
                      (try (have c59b2 : (t325 == t329) = true := by simpa using c59))
                      clear c59
                      replace H := Option.bind_eq_some_iff.mp H
                      obtain ⟨t343, A620, H⟩ := H
                      replace H : (if t343 = true then (if (t335 != t339) = true then (laws_FnSumsOfPrimes.j2 kj25 t315 t316 t324 t332 t333 t334 t335 true) else ((laws_gSame.f kj25 t334 t338).bind fun t344 => (if t344 = true then (laws_FnSumsOfPrimes.j2 kj25 t315 t316 t324 t332 t333 t334 t335 (t317 != t325)) else (laws_FnSumsOfPrimes.j2 kj25 t315 t316 t324 t332 t333 t334 t335 true)))) else (laws_FnSumsOfPrimes.j2 kj25 t315 t316 t324 t332 t333 t334 t335 true)) = some r := H
                      have A62 := Aside0.mk A620
                      clear A620
                      by_cases c63 : t343 = true
                      · subst c63
                        have H1 : (if (t335 != t339) = true then (laws_FnSumsOfPrimes.j2 kj25 t315 t316 t324 t332 t333 t334 t335 true) else ((laws_gSame.f kj25 t334 t338).bind fun t344 => (if t344 = true then (laws_FnSumsOfPrimes.j2 kj25 t315 t316 t324 t332 t333 t334 t335 (t317 != t325)) else (laws_FnSumsOfPrimes.j2 kj25 t315 t316 t324 t332 t333 t334 t335 true)))) = some r := by rw [if_pos rfl] at H; exact H
                        clear H
                        have H := H1
                        clear H1
                        by_cases c64 : (t335 != t339) = true
                        · as_aux_lemma =>
                          rw [if_pos c64] at H
                          have c64b0 : (t335 != t339) = true := c64
                          (try (have c64b1 : decide (t335 = t339) = false := by simpa using c64))
                          (try (have c64b2 : (t335 == t339) = false := by simpa using c64))
                          (try (have c64b3 : ¬ (t335 = t339) := by simpa using c64))
                          clear c64
                          have H' := Aside0.mk H
                          clear H
                          obtain ⟨Ao65, co65, eo65⟩ := Kd.R_slice HO319.out
                          subst eo65
                          obtain ⟨Ao66, co66, eo66⟩ := Kd.R_slice HO323.out
                          subst eo66
                          go_wp2_with (first | (go_at_call 19; (with_reducible refine (laws_gSame.calls kj25 _ _ t316 _ _ t320 true _ ?side1 ?side2 ?side3 ?side4 A57.out).mono ?_); (case side1 => repeat (first | exact (Kd.R_reads' HO319.out).2.2 | (with_reducible refine Kd.C_alloc ?_ _) | (with_reducible refine Kd.C_drewN ?_ _) | (with_reducible refine Kd.C_drew ?_))); (case side2 => exact (Kd.R_reads' HO319.out).2.1); (case side3 => repeat (first | exact (Kd.R_reads' HO323.out).2.2 | (with_reducible refine Kd.C_alloc ?_ _) | (with_reducible refine Kd.C_drewN ?_ _) | (with_reducible refine Kd.C_drew ?_))); (case side4 => exact (Kd.R_reads' HO323.out).2.1); rintro e w' ⟨rfl, ⟨nd, rfl⟩⟩; obtain ⟨Ao67, co67, eo67⟩ := Kd.R_slice HO327.out; subst eo67; obtain ⟨Ao68, co68, eo68⟩ := Kd.R_slice HO331.out; subst eo68) | (go_at_call 19; (with_reducible refine (laws_gSame.calls kj25 _ _ t324 _ _ t328 true _ ?side1 ?side2 ?side3 ?side4 A62.out).mono ?_); (case side1 => repeat (first | exact (Kd.R_reads' HO327.out).2.2 | (with_reducible refine Kd.C_alloc ?_ _) | (with_reducible refine Kd.C_drewN ?_ _) | (with_reducible refine Kd.C_drew ?_))); (case side2 => exact (Kd.R_reads' HO327.out).2.1); (case side3 => repeat (first | exact (Kd.R_reads' HO331.out).2.2 | (with_reducible refine Kd.C_alloc ?_ _) | (with_reducible refine Kd.C_drewN ?_ _) | (with_reducible refine Kd.C_drew ?_))); (case side4 => exact (Kd.R_reads' HO331.out).2.1); rintro e w' ⟨rfl, ⟨nd, rfl⟩⟩))
                          go_meet
                          case rel => exact ⟨_, (true), (by first | rfl | (simp; done) | (simp [*]; done)), H', ⟨by have := HJ9.out; have := HJ25.out; first | omega | exact Nat.le_refl _⟩, ⟨by (with_reducible repeat (first | apply Kd.R_alloc | apply Kd.R_drewN | apply Kd.R_drew)); exact Kd.R_mono HO319.out (fun _ hk => ⟨hk.1.1.1.2, hk.1.2⟩)⟩, ⟨by (with_reducible repeat (first | apply Kd.R_alloc | apply Kd.R_drewN | apply Kd.R_drew)); exact Kd.R_mono HO327.out (fun _ hk => ⟨hk.1.1.1.1.2, hk.1.2⟩)⟩, ⟨by (with_reducible repeat (first | apply Kd.R_alloc | apply Kd.R_drewN | apply Kd.R_drew)); exact Kd.R_mono HO337.out (fun _ hk => ⟨hk.1.1.1.1.2, hk.1.1.2⟩)⟩, ⟨by repeat (first | (with_reducible first | exact HB.out | apply below_alloc | apply pw_below_drewN | apply below_drew1) | exact HB.out)⟩⟩
                        · as_aux_lemma =>
                          rw [if_neg c64] at H
                          have c64b0 : (t335 != t339) = false := by simpa using c64
                          (try (have c64b1 : decide (t335 = t339) = true := by simpa using c64))
                          (try (have c64b2 : (t335 == t339) = true := by simpa using c64))
                          clear c64
                          replace H := Option.bind_eq_some_iff.mp H
                          obtain ⟨t344, A690, H⟩ := H
                          replace H : (if t344 = true then (laws_FnSumsOfPrimes.j2 kj25 t315 t316 t324 t332 t333 t334 t335 (t317 != t325)) else (laws_FnSumsOfPrimes.j2 kj25 t315 t316 t324 t332 t333 t334 t335 true)) = some r := H
                          have A69 := Aside0.mk A690
                          clear A690
                          by_cases c70 : t344 = true
                          · subst c70
                            have H1 : (laws_FnSumsOfPrimes.j2 kj25 t315 t316 t324 t332 t333 t334 t335 (t317 != t325)) = some r := by rw [if_pos rfl] at H; exact H
                            clear H
                            have H := H1
                            clear H1
                            have H' := Aside0.mk H
                            clear H
                            obtain ⟨Ao71, co71, eo71⟩ := Kd.R_slice HO319.out
                            subst eo71
                            obtain ⟨Ao72, co72, eo72⟩ := Kd.R_slice HO323.out
                            subst eo72
                            go_wp2_with (first | (go_at_call 19; (with_reducible refine (laws_gSame.calls kj25 _ _ t316 _ _ t320 true _ ?side1 ?side2 ?side3 ?side4 A57.out).mono ?_); (case side1 => repeat (first | exact (Kd.R_reads' HO319.out).2.2 | (with_reducible refine Kd.C_alloc ?_ _) | (with_reducible refine Kd.C_drewN ?_ _) | (with_reducible refine Kd.C_drew ?_))); (case side2 => exact (Kd.R_reads' HO319.out).2.1); (case side3 => repeat (first | exact (Kd.R_reads' HO323.out).2.2 | (with_reducible refine Kd.C_alloc ?_ _) | (with_reducible refine Kd.C_drewN ?_ _) | (with_reducible refine Kd.C_drew ?_))); (case side4 => exact (Kd.R_reads' HO323.out).2.1); rintro e w' ⟨rfl, ⟨nd, rfl⟩⟩; obtain ⟨Ao73, co73, eo73⟩ := Kd.R_slice HO327.out; subst eo73; obtain ⟨Ao74, co74, eo74⟩ := Kd.R_slice HO331.out; subst eo74) | (go_at_call 19; (with_reducible refine (laws_gSame.calls kj25 _ _ t324 _ _ t328 true _ ?side1 ?side2 ?side3 ?side4 A62.out).mono ?_); (case side1 => repeat (first | exact (Kd.R_reads' HO327.out).2.2 | (with_reducible refine Kd.C_alloc ?_ _) | (with_reducible refine Kd.C_drewN ?_ _) | (with_reducible refine Kd.C_drew ?_))); (case side2 => exact (Kd.R_reads' HO327.out).2.1); (case side3 => repeat (first | exact (Kd.R_reads' HO331.out).2.2 | (with_reducible refine Kd.C_alloc ?_ _) | (with_reducible refine Kd.C_drewN ?_ _) | (with_reducible refine Kd.C_drew ?_))); (case side4 => exact (Kd.R_reads' HO331.out).2.1); rintro e w' ⟨rfl, ⟨nd, rfl⟩⟩; obtain ⟨Ao75, co75, eo75⟩ := Kd.R_slice HO337.out; subst eo75; obtain ⟨Ao76, co76, eo76⟩ := Kd.R_slice HO341.out; subst eo76) | (go_at_call 19; (with_reducible refine (laws_gSame.calls kj25 _ _ t334 _ _ t338 true _ ?side1 ?side2 ?side3 ?side4 A69.out).mono ?_); (case side1 => repeat (first | exact (Kd.R_reads' HO337.out).2.2 | (with_reducible refine Kd.C_alloc ?_ _) | (with_reducible refine Kd.C_drewN ?_ _) | (with_reducible refine Kd.C_drew ?_))); (case side2 => exact (Kd.R_reads' HO337.out).2.1); (case side3 => repeat (first | exact (Kd.R_reads' HO341.out).2.2 | (with_reducible refine Kd.C_alloc ?_ _) | (with_reducible refine Kd.C_drewN ?_ _) | (with_reducible refine Kd.C_drew ?_))); (case side4 => exact (Kd.R_reads' HO341.out).2.1); rintro e w' ⟨rfl, ⟨nd, rfl⟩⟩))
                            go_meet
                            case rel => exact ⟨_, ((t317 != t325)), (by first | rfl | (simp; done) | (simp [*]; done)), H', ⟨by have := HJ9.out; have := HJ25.out; first | omega | exact Nat.le_refl _⟩, ⟨by (with_reducible repeat (first | apply Kd.R_alloc | apply Kd.R_drewN | apply Kd.R_drew)); exact Kd.R_mono HO319.out (fun _ hk => ⟨hk.1.1.1.2, hk.1.2⟩)⟩, ⟨by (with_reducible repeat (first | apply Kd.R_alloc | apply Kd.R_drewN | apply Kd.R_drew)); exact Kd.R_mono HO327.out (fun _ hk => ⟨hk.1.1.1.1.2, hk.1.2⟩)⟩, ⟨by (with_reducible repeat (first | apply Kd.R_alloc | apply Kd.R_drewN | apply Kd.R_drew)); exact Kd.R_mono HO337.out (fun _ hk => ⟨hk.1.1.1.1.2, hk.1.1.2⟩)⟩, ⟨by repeat (first | (with_reducible first | exact HB.out | apply below_alloc | apply pw_below_drewN | apply below_drew1) | exact HB.out)⟩⟩
                          · replace c70 := Bool.eq_false_iff.mpr c70
                            subst c70
                            have H1 : (laws_FnSumsOfPrimes.j2 kj25 t315 t316 t324 t332 t333 t334 t335 true) = some r := by rw [if_neg (show ¬ (false = true) by decide)] at H; exact H
                            clear H
                            have H := H1
                            clear H1
                            have H' := Aside0.mk H
                            clear H
                            obtain ⟨Ao77, co77, eo77⟩ := Kd.R_slice HO319.out
                            subst eo77
                            obtain ⟨Ao78, co78, eo78⟩ := Kd.R_slice HO323.out
                            subst eo78
                            go_wp2_with (first | (go_at_call 19; (with_reducible refine (laws_gSame.calls kj25 _ _ t316 _ _ t320 true _ ?side1 ?side2 ?side3 ?side4 A57.out).mono ?_); (case side1 => repeat (first | exact (Kd.R_reads' HO319.out).2.2 | (with_reducible refine Kd.C_alloc ?_ _) | (with_reducible refine Kd.C_drewN ?_ _) | (with_reducible refine Kd.C_drew ?_))); (case side2 => exact (Kd.R_reads' HO319.out).2.1); (case side3 => repeat (first | exact (Kd.R_reads' HO323.out).2.2 | (with_reducible refine Kd.C_alloc ?_ _) | (with_reducible refine Kd.C_drewN ?_ _) | (with_reducible refine Kd.C_drew ?_))); (case side4 => exact (Kd.R_reads' HO323.out).2.1); rintro e w' ⟨rfl, ⟨nd, rfl⟩⟩; obtain ⟨Ao79, co79, eo79⟩ := Kd.R_slice HO327.out; subst eo79; obtain ⟨Ao80, co80, eo80⟩ := Kd.R_slice HO331.out; subst eo80) | (go_at_call 19; (with_reducible refine (laws_gSame.calls kj25 _ _ t324 _ _ t328 true _ ?side1 ?side2 ?side3 ?side4 A62.out).mono ?_); (case side1 => repeat (first | exact (Kd.R_reads' HO327.out).2.2 | (with_reducible refine Kd.C_alloc ?_ _) | (with_reducible refine Kd.C_drewN ?_ _) | (with_reducible refine Kd.C_drew ?_))); (case side2 => exact (Kd.R_reads' HO327.out).2.1); (case side3 => repeat (first | exact (Kd.R_reads' HO331.out).2.2 | (with_reducible refine Kd.C_alloc ?_ _) | (with_reducible refine Kd.C_drewN ?_ _) | (with_reducible refine Kd.C_drew ?_))); (case side4 => exact (Kd.R_reads' HO331.out).2.1); rintro e w' ⟨rfl, ⟨nd, rfl⟩⟩; obtain ⟨Ao81, co81, eo81⟩ := Kd.R_slice HO337.out; subst eo81; obtain ⟨Ao82, co82, eo82⟩ := Kd.R_slice HO341.out; subst eo82) | (go_at_call 19; (with_reducible refine (laws_gSame.calls kj25 _ _ t334 _ _ t338 false _ ?side1 ?side2 ?side3 ?side4 A69.out).mono ?_); (case side1 => repeat (first | exact (Kd.R_reads' HO337.out).2.2 | (with_reducible refine Kd.C_alloc ?_ _) | (with_reducible refine Kd.C_drewN ?_ _) | (with_reducible refine Kd.C_drew ?_))); (case side2 => exact (Kd.R_reads' HO337.out).2.1); (case side3 => repeat (first | exact (Kd.R_reads' HO341.out).2.2 | (with_reducible refine Kd.C_alloc ?_ _) | (with_reducible refine Kd.C_drewN ?_ _) | (with_reducible refine Kd.C_drew ?_))); (case side4 => exact (Kd.R_reads' HO341.out).2.1); rintro e w' ⟨rfl, ⟨nd, rfl⟩⟩))
                            go_meet
                            case rel => exact ⟨_, (true), (by first | rfl | (simp; done) | (simp [*]; done)), H', ⟨by have := HJ9.out; have := HJ25.out; first | omega | exact Nat.le_refl _⟩, ⟨by (with_reducible repeat (first | apply Kd.R_alloc | apply Kd.R_drewN | apply Kd.R_drew)); exact Kd.R_mono HO319.out (fun _ hk => ⟨hk.1.1.1.2, hk.1.2⟩)⟩, ⟨by (with_reducible repeat (first | apply Kd.R_alloc | apply Kd.R_drewN | apply Kd.R_drew)); exact Kd.R_mono HO327.out (fun _ hk => ⟨hk.1.1.1.1.2, hk.1.2⟩)⟩, ⟨by (with_reducible repeat (first | apply Kd.R_alloc | apply Kd.R_drewN | apply Kd.R_drew)); exact Kd.R_mono HO337.out (fun _ hk => ⟨hk.1.1.1.1.2, hk.1.1.2⟩)⟩, ⟨by repeat (first | (with_reducible first | exact HB.out | apply below_alloc | apply pw_below_drewN | apply below_drew1) | exact HB.out)⟩⟩
                      · replace c63 := Bool.eq_false_iff.mpr c63
                        subst c63
                        have H1 : (laws_FnSumsOfPrimes.j2 kj25 t315 t316 t324 t332 t333 t334 t335 true) = some r := by rw [if_neg (show ¬ (false = true) by decide)] at H; exact H
                        clear H
                        have H := H1
                        clear H1
                        have H' := Aside0.mk H
                        clear H
                        obtain ⟨Ao83, co83, eo83⟩ := Kd.R_slice HO319.out
                        subst eo83
                        obtain ⟨Ao84, co84, eo84⟩ := Kd.R_slice HO323.out
                        subst eo84
                        go_wp2_with (first | (go_at_call 19; (with_reducible refine (laws_gSame.calls kj25 _ _ t316 _ _ t320 true _ ?side1 ?side2 ?side3 ?side4 A57.out).mono ?_); (case side1 => repeat (first | exact (Kd.R_reads' HO319.out).2.2 | (with_reducible refine Kd.C_alloc ?_ _) | (with_reducible refine Kd.C_drewN ?_ _) | (with_reducible refine Kd.C_drew ?_))); (case side2 => exact (Kd.R_reads' HO319.out).2.1); (case side3 => repeat (first | exact (Kd.R_reads' HO323.out).2.2 | (with_reducible refine Kd.C_alloc ?_ _) | (with_reducible refine Kd.C_drewN ?_ _) | (with_reducible refine Kd.C_drew ?_))); (case side4 => exact (Kd.R_reads' HO323.out).2.1); rintro e w' ⟨rfl, ⟨nd, rfl⟩⟩; obtain ⟨Ao85, co85, eo85⟩ := Kd.R_slice HO327.out; subst eo85; obtain ⟨Ao86, co86, eo86⟩ := Kd.R_slice HO331.out; subst eo86) | (go_at_call 19; (with_reducible refine (laws_gSame.calls kj25 _ _ t324 _ _ t328 false _ ?side1 ?side2 ?side3 ?side4 A62.out).mono ?_); (case side1 => repeat (first | exact (Kd.R_reads' HO327.out).2.2 | (with_reducible refine Kd.C_alloc ?_ _) | (with_reducible refine Kd.C_drewN ?_ _) | (with_reducible refine Kd.C_drew ?_))); (case side2 => exact (Kd.R_reads' HO327.out).2.1); (case side3 => repeat (first | exact (Kd.R_reads' HO331.out).2.2 | (with_reducible refine Kd.C_alloc ?_ _) | (with_reducible refine Kd.C_drewN ?_ _) | (with_reducible refine Kd.C_drew ?_))); (case side4 => exact (Kd.R_reads' HO331.out).2.1); rintro e w' ⟨rfl, ⟨nd, rfl⟩⟩))
                        go_meet
                        case rel => exact ⟨_, (true), (by first | rfl | (simp; done) | (simp [*]; done)), H', ⟨by have := HJ9.out; have := HJ25.out; first | omega | exact Nat.le_refl _⟩, ⟨by (with_reducible repeat (first | apply Kd.R_alloc | apply Kd.R_drewN | apply Kd.R_drew)); exact Kd.R_mono HO319.out (fun _ hk => ⟨hk.1.1.1.2, hk.1.2⟩)⟩, ⟨by (with_reducible repeat (first | apply Kd.R_alloc | apply Kd.R_drewN | apply Kd.R_drew)); exact Kd.R_mono HO327.out (fun _ hk => ⟨hk.1.1.1.1.2, hk.1.2⟩)⟩, ⟨by (with_reducible repeat (first | apply Kd.R_alloc | apply Kd.R_drewN | apply Kd.R_drew)); exact Kd.R_mono HO337.out (fun _ hk => ⟨hk.1.1.1.1.2, hk.1.1.2⟩)⟩, ⟨by repeat (first | (with_reducible first | exact HB.out | apply below_alloc | apply pw_below_drewN | apply below_drew1) | exact HB.out)⟩⟩
                  · replace c58 := Bool.eq_false_iff.mpr c58
                    subst c58
                    have H1 : (laws_FnSumsOfPrimes.j2 kj25 t315 t316 t324 t332 t333 t334 t335 true) = some r := by rw [if_neg (show ¬ (false = true) by decide)] at H; exact H
                    clear H
                    have H := H1
                    clear H1
                    have H' := Aside0.mk H
                    clear H
                    obtain ⟨Ao87, co87, eo87⟩ := Kd.R_slice HO319.out
                    subst eo87
                    obtain ⟨Ao88, co88, eo88⟩ := Kd.R_slice HO323.out
                    subst eo88
                    go_wp2_with (first | (go_at_call 19; (with_reducible refine (laws_gSame.calls kj25 _ _ t316 _ _ t320 false _ ?side1 ?side2 ?side3 ?side4 A57.out).mono ?_); (case side1 => repeat (first | exact (Kd.R_reads' HO319.out).2.2 | (with_reducible refine Kd.C_alloc ?_ _) | (with_reducible refine Kd.C_drewN ?_ _) | (with_reducible refine Kd.C_drew ?_))); (case side2 => exact (Kd.R_reads' HO319.out).2.1); (case side3 => repeat (first | exact (Kd.R_reads' HO323.out).2.2 | (with_reducible refine Kd.C_alloc ?_ _) | (with_reducible refine Kd.C_drewN ?_ _) | (with_reducible refine Kd.C_drew ?_))); (case side4 => exact (Kd.R_reads' HO323.out).2.1); rintro e w' ⟨rfl, ⟨nd, rfl⟩⟩))
                    go_meet
                    case rel => exact ⟨_, (true), (by first | rfl | (simp; done) | (simp [*]; done)), H', ⟨by have := HJ9.out; have := HJ25.out; first | omega | exact Nat.le_refl _⟩, ⟨by (with_reducible repeat (first | apply Kd.R_alloc | apply Kd.R_drewN | apply Kd.R_drew)); exact Kd.R_mono HO319.out (fun _ hk => ⟨hk.1.1.1.2, hk.1.2⟩)⟩, ⟨by (with_reducible repeat (first | apply Kd.R_alloc | apply Kd.R_drewN | apply Kd.R_drew)); exact Kd.R_mono HO327.out (fun _ hk => ⟨hk.1.1.1.1.2, hk.1.2⟩)⟩, ⟨by (with_reducible repeat (first | apply Kd.R_alloc | apply Kd.R_drewN | apply Kd.R_drew)); exact Kd.R_mono HO337.out (fun _ hk => ⟨hk.1.1.1.1.2, hk.1.1.2⟩)⟩, ⟨by repeat (first | (with_reducible first | exact HB.out | apply below_alloc | apply pw_below_drewN | apply below_drew1) | exact HB.out)⟩⟩
              case rest =>
                as_aux_lemma =>
                clear HC47
                try clear c1
                try clear c2
                try clear p2
                try clear c3
                try clear c4
                try clear c5
                try clear c6
                try clear p6
                try clear c7
                try clear c8
                try clear c9
                try clear c10
                try clear c11
                try clear c12
                try clear c13
                try clear c14
                try clear c15
                try clear c16
                try clear c16b0
                try clear c16b1
                try clear c16b2
                try clear c17
                try clear c17b0
                try clear c17b1
                try clear c18
                try clear c18b0
                try clear c18b1
                try clear c19
                try clear c19b0
                try clear c19b1
                try clear c19b2
                try clear c20
                try clear c20b0
                try clear c20b1
                try clear c21
                try clear c22
                try clear c22b0
                try clear c22b1
                try clear c22b2
                try clear c23
                try clear c23b0
                try clear c23b1
                try clear c24
                try clear c24b0
                try clear c24b1
                try clear c24b2
                try clear c25
                try clear c27
                try clear c30
                try clear c30b0
                try clear c30b1
                try clear c31
                try clear c31b0
                try clear c32
                try clear c33
                try clear c34
                try clear c35
                try clear c36
                try clear c36b0
                try clear c36b1
                try clear c37
                try clear c37b0
                try clear c37b1
                try clear c38
                try clear c38b0
                try clear c38b1
                try clear c56
                try clear c56b0
                try clear c56b1
                try clear c56b2
                try clear c58
                try clear c59
                try clear c59b0
                try clear c59b1
                try clear c59b2
                try clear c63
                try clear c64
                try clear c64b0
                try clear c64b1
                try clear c64b2
                try clear p64
                try clear c70
                try clear p2
                try clear p6
                obtain ⟨kq, x243_46, rfl, HA, HJ46, HO_21, HO_25, HO_31, HB⟩ := hcut
                cases kq with
                | zero => exact absurd HA.out (by simp [laws_FnSumsOfPrimes.j2])
                | succ kj46 =>
                  have H := HA.out
                  clear HA
                  simp only [laws_FnSumsOfPrimes.j2] at H
                  by_cases c89 : x243_46 = true
                  · subst c89
                    have H1 : (some false) = some r := by rw [if_pos rfl] at H; exact H
                    clear H
                    have H := H1
                    clear H1
                    obtain rfl := Option.some.inj H
                    go_wp2
                    go_ret
                    exact ⟨by first | rfl | (simp [errW_none, errW_some] <;> rfl) | (simp [*, errW_none, errW_some] <;> rfl), by repeat (first | (with_reducible first | exact HB.out | apply below_alloc | apply pw_below_drewN | apply below_drew1) | exact HB.out)⟩
                  · replace c89 := Bool.eq_false_iff.mpr c89
                    subst c89
                    have H1 : (laws_FnSumsOfPrimes.l0 kj46 t315 t316 t324 t332 t333 t334 t335 t316 (t316.length : Int) 0) = some r := by rw [if_neg (show ¬ (false = true) by decide)] at H; exact H
                    clear H
                    have H := H1
                    clear H1
                    have H' := Aside0.mk H
                    clear H
                    obtain ⟨Ao90, co90, eo90⟩ := Kd.R_slice HO_21.out
                    subst eo90
                    go_wp2
                    go_loopg [246] kj46 (fun kq v246 w' => ∃ (x246_4 : Int), v246 = .int .i64 x246_4 ∧ Aside0 (laws_FnSumsOfPrimes.l0 kq t315 t316 t324 t332 t333 t334 t335 t316 (t316.length : Int) x246_4 = some r) ∧ Aside0 (kq ≤ kj46) ∧ Aside0 (Kd.R (Kd.int .i64) 3 w' w.heap.size (fun k_ => some k_ ≠ (v326 : Value).ownBlock ∧ some k_ ≠ (v336 : Value).ownBlock) (.slice Ao90 t316.length co90) t316) ∧ Aside0 (Kd.R (Kd.int .i64) 3 w' w.heap.size (fun k_ => some k_ ≠ ((.slice Ao90 t316.length co90) : Value).ownBlock ∧ some k_ ≠ (v336 : Value).ownBlock ∧ some k_ ≠ ((.slice Ao90 t316.length co90) : Value).ownBlock) v326 t324) ∧ Aside0 (Kd.R (Kd.int .i64) 3 w' w.heap.size (fun k_ => some k_ ≠ ((.slice Ao90 t316.length co90) : Value).ownBlock ∧ some k_ ≠ (v326 : Value).ownBlock ∧ some k_ ≠ ((.slice Ao90 t316.length co90) : Value).ownBlock) v336 t334) ∧ Aside0 (Kd.R (Kd.int .i64) 3 w' w.heap.size (fun k_ => some k_ ≠ (v326 : Value).ownBlock ∧ some k_ ≠ (v336 : Value).ownBlock) (.slice Ao90 t316.length co90) t316) ∧ Aside0 (Below w.heap.size w w'))
                    case atStart => exact ⟨(0), (by first | rfl | (simp; done) | (simp [*]; done)), H', ⟨Nat.le_refl _⟩, ⟨by (with_reducible repeat (first | apply Kd.R_alloc | apply Kd.R_drewN | apply Kd.R_drew)); exact HO_21.out⟩, ⟨by (with_reducible repeat (first | apply Kd.R_alloc | apply Kd.R_drewN | apply Kd.R_drew)); exact Kd.R_mono HO_25.out (fun _ hk => ⟨hk.1, ⟨hk.2, hk.1⟩⟩)⟩, ⟨by (with_reducible repeat (first | apply Kd.R_alloc | apply Kd.R_drewN | apply Kd.R_drew)); exact Kd.R_mono HO_31.out (fun _ hk => ⟨hk.1, ⟨hk.2, hk.1⟩⟩)⟩, ⟨by (with_reducible repeat (first | apply Kd.R_alloc | apply Kd.R_drewN | apply Kd.R_drew)); exact HO_21.out⟩, ⟨by repeat (first | (with_reducible first | exact HB.out | apply below_alloc | apply pw_below_drewN | apply below_drew1) | exact HB.out)⟩⟩
                    case round =>
                      as_aux_lemma =>
                      clear H'
                      try clear c1
                      try clear c2
                      try clear p2
                      try clear c3
                      try clear c4
                      try clear c5
                      try clear c6
                      try clear p6
                      try clear c7
                      try clear c8
                      try clear c9
                      try clear c10
                      try clear c11
                      try clear c12
                      try clear c13
                      try clear c14
                      try clear c15
                      try clear c16
                      try clear c16b0
                      try clear c16b1
                      try clear c16b2
                      try clear c17
                      try clear c17b0
                      try clear c17b1
                      try clear c18
                      try clear c18b0
                      try clear c18b1
                      try clear c19
                      try clear c19b0
                      try clear c19b1
                      try clear c19b2
                      try clear c20
                      try clear c20b0
                      try clear c20b1
                      try clear c21
                      try clear c22
                      try clear c22b0
                      try clear c22b1
                      try clear c22b2
                      try clear c23
                      try clear c23b0
                      try clear c23b1
                      try clear c24
                      try clear c24b0
                      try clear c24b1
                      try clear c24b2
                      try clear c25
                      try clear c27
                      try clear c30
                      try clear c30b0
                      try clear c30b1
                      try clear c31
                      try clear c31b0
                      try clear c32
                      try clear c33
                      try clear c34
                      try clear c35
                      try clear c36
                      try clear c36b0
                      try clear c36b1
                      try clear c37
                      try clear c37b0
                      try clear c37b1
                      try clear c38
                      try clear c38b0
                      try clear c38b1
                      try clear c56
                      try clear c56b0
                      try clear c56b1
                      try clear c56b2
                      try clear c58
                      try clear c59
                      try clear c59b0
                      try clear c59b1
                      try clear c59b2
                      try clear c63
                      try clear c64
                      try clear c64b0
                      try clear c64b1
                      try clear c64b2
                      try clear p64
                      try clear c70
                      try clear c89
                      try clear p2
                      try clear p6
                      try clear p64
                      obtain ⟨x246_4, rfl, HA, HK4, HO_21, HO_25, HO_31, HO_244, HB⟩ := hrel
                      cases gk with
                      | zero => exact absurd HA.out (by simp [laws_FnSumsOfPrimes.l0])
                      | succ k4 =>
                        have H := HA.out
                        clear HA
                        simp only [laws_FnSumsOfPrimes.l0] at H
                        by_cases c91 : x246_4 < (t316.length : Int)
                        · as_aux_lemma =>
                          rw [if_pos c91] at H
                          have c91b0 : decide (x246_4 < (t316.length : Int)) = true := decide_eq_true c91
                          clear c91
                          by_cases c92 : 0 ≤ x246_4
                          · as_aux_lemma =>
                            rw [if_pos c92] at H
                            have c92b0 : decide (0 ≤ x246_4) = true := decide_eq_true c92
                            clear c92
                            by_cases c93 : x246_4 < (t316.length : Int)
                            · as_aux_lemma =>
                              rw [if_pos c93] at H
                              have c93b0 : decide (x246_4 < (t316.length : Int)) = true := decide_eq_true c93
                              clear c93
                              replace H := Option.bind_eq_some_iff.mp H
                              obtain ⟨⟨t346, t347⟩, A940, H⟩ := H
                              replace H : ((impl_IsPrime.f k4 (wrap64 ((rd t316 x246_4) + 2))).bind fun bt348 => (if t347 = true then (if t346 = true then (if bt348.2 = true then (if bt348.1 = true then (if (rd t316 x246_4) > t315 then (some false) else (if x246_4 > 0 then (if 0 ≤ (wrap64 (x246_4 - 1)) then (if (wrap64 (x246_4 - 1)) < (t316.length : Int) then (if (rd t316 (wrap64 (x246_4 - 1))) ≥ (rd t316 x246_4) then (some false) else (if (rd t316 x246_4) > 3 then (if (Int.tmod (rd t316 x246_4) 6) = 5 then (laws_FnSumsOfPrimes.l0 k4 t315 t316 t324 t332 t333 t334 t335 t316 (t316.length : Int) (wrap64 (x246_4 + 1))) else (some false)) else (laws_FnSumsOfPrimes.l0 k4 t315 t316 t324 t332 t333 t334 t335 t316 (t316.length : Int) (wrap64 (x246_4 + 1))))) else (none)) else (none)) else (if (rd t316 x246_4) > 3 then (if (Int.tmod (rd t316 x246_4) 6) = 5 then (laws_FnSumsOfPrimes.l0 k4 t315 t316 t324 t332 t333 t334 t335 t316 (t316.length : Int) (wrap64 (x246_4 + 1))) else (some false)) else (laws_FnSumsOfPrimes.l0 k4 t315 t316 t324 t332 t333 t334 t335 t316 (t316.length : Int) (wrap64 (x246_4 + 1)))))) else (some false)) else (some false)) else (some false)) else (some false))) = some r := H
                              have A94 := Aside0.mk A940
                              clear A940
                              replace H := Option.bind_eq_some_iff.mp H
                              obtain ⟨⟨t348, t349⟩, A950, H⟩ := H
                              replace H : (if t347 = true then (if t346 = true then (if t349 = true then (if t348 = true then (if (rd t316 x246_4) > t315 then (some false) else (if x246_4 > 0 then (if 0 ≤ (wrap64 (x246_4 - 1)) then (if (wrap64 (x246_4 - 1)) < (t316.length : Int) then (if (rd t316 (wrap64 (x246_4 - 1))) ≥ (rd t316 x246_4) then (some false) else (if (rd t316 x246_4) > 3 then (if (Int.tmod (rd t316 x246_4) 6) = 5 then (laws_FnSumsOfPrimes.l0 k4 t315 t316 t324 t332 t333 t334 t335 t316 (t316.length : Int) (wrap64 (x246_4 + 1))) else (some false)) else (laws_FnSumsOfPrimes.l0 k4 t315 t316 t324 t332 t333 t334 t335 t316 (t316.length : Int) (wrap64 (x246_4 + 1))))) else (none)) else (none)) else (if (rd t316 x246_4) > 3 then (if (Int.tmod (rd t316 x246_4) 6) = 5 then (laws_FnSumsOfPrimes.l0 k4 t315 t316 t324 t332 t333 t334 t335 t316 (t316.length : Int) (wrap64 (x246_4 + 1))) else (some false)) else (laws_FnSumsOfPrimes.l0 k4 t315 t316 t324 t332 t333 t334 t335 t316 (t316.length : Int) (wrap64 (x246_4 + 1)))))) else (some false)) else (some false)) else (some false)) else (some false)) = some r := H
                              have A95 := Aside0.mk A950
                              clear A950
                              by_cases c96 : t347 = true
                              · subst c96
                                have H1 : (if t346 = true then (if t349 = true then (if t348 = true then (if (rd t316 x246_4) > t315 then (some false) else (if x246_4 > 0 then (if 0 ≤ (wrap64 (x246_4 - 1)) then (if (wrap64 (x246_4 - 1)) < (t316.length : Int) then (if (rd t316 (wrap64 (x246_4 - 1))) ≥ (rd t316 x246_4) then (some false) else (if (rd t316 x246_4) > 3 then (if (Int.tmod (rd t316 x246_4) 6) = 5 then (laws_FnSumsOfPrimes.l0 k4 t315 t316 t324 t332 t333 t334 t335 t316 (t316.length : Int) (wrap64 (x246_4 + 1))) else (some false)) else (laws_FnSumsOfPrimes.l0 k4 t315 t316 t324 t332 t333 t334 t335 t316 (t316.length : Int) (wrap64 (x246_4 + 1))))) else (none)) else (none)) else (if (rd t316 x246_4) > 3 then (if (Int.tmod (rd t316 x246_4) 6) = 5 then (laws_FnSumsOfPrimes.l0 k4 t315 t316 t324 t332 t333 t334 t335 t316 (t316.length : Int) (wrap64 (x246_4 + 1))) else (some false)) else (laws_FnSumsOfPrimes.l0 k4 t315 t316 t324 t332 t333 t334 t335 t316 (t316.length : Int) (wrap64 (x246_4 + 1)))))) else (some false)) else (some false)) else (some false)) = some r := by rw [if_pos rfl] at H; exact H
                                clear H
                                have H := H1
                                clear H1
                                by_cases c97 : t346 = true
                                · subst c97
                                  have H1 : (if t349 = true then (if t348 = true then (if (rd t316 x246_4) > t315 then (some false) else (if x246_4 > 0 then (if 0 ≤ (wrap64 (x246_4 - 1)) then (if (wrap64 (x246_4 - 1)) < (t316.length : Int) then (if (rd t316 (wrap64 (x246_4 - 1))) ≥ (rd t316 x246_4) then (some false) else (if (rd t316 x246_4) > 3 then (if (Int.tmod (rd t316 x246_4) 6) = 5 then (laws_FnSumsOfPrimes.l0 k4 t315 t316 t324 t332 t333 t334 t335 t316 (t316.length : Int) (wrap64 (x246_4 + 1))) else (some false)) else (laws_FnSumsOfPrimes.l0 k4 t315 t316 t324 t332 t333 t334 t335 t316 (t316.length : Int) (wrap64 (x246_4 + 1))))) else (none)) else (none)) else (if (rd t316 x246_4) > 3 then (if (Int.tmod (rd t316 x246_4) 6) = 5 then (laws_FnSumsOfPrimes.l0 k4 t315 t316 t324 t332 t333 t334 t335 t316 (t316.length : Int) (wrap64 (x246_4 + 1))) else (some false)) else (laws_FnSumsOfPrimes.l0 k4 t315 t316 t324 t332 t333 t334 t335 t316 (t316.length : Int) (wrap64 (x246_4 + 1)))))) else (some false)) else (some false)) = some r := by rw [if_pos rfl] at H; exact H
                                  clear H
                                  have H := H1
                                  clear H1
                                  by_cases c98 : t349 = true
                                  · subst c98
                                    have H1 : (if t348 = true then (if (rd t316 x246_4) > t315 then (some false) else (if x246_4 > 0 then (if 0 ≤ (wrap64 (x246_4 - 1)) then (if (wrap64 (x246_4 - 1)) < (t316.length : Int) then (if (rd t316 (wrap64 (x246_4 - 1))) ≥ (rd t316 x246_4) then (some false) else (if (rd t316 x246_4) > 3 then (if (Int.tmod (rd t316 x246_4) 6) = 5 then (laws_FnSumsOfPrimes.l0 k4 t315 t316 t324 t332 t333 t334 t335 t316 (t316.length : Int) (wrap64 (x246_4 + 1))) else (some false)) else (laws_FnSumsOfPrimes.l0 k4 t315 t316 t324 t332 t333 t334 t335 t316 (t316.length : Int) (wrap64 (x246_4 + 1))))) else (none)) else (none)) else (if (rd t316 x246_4) > 3 then (if (Int.tmod (rd t316 x246_4) 6) = 5 then (laws_FnSumsOfPrimes.l0 k4 t315 t316 t324 t332 t333 t334 t335 t316 (t316.length : Int) (wrap64 (x246_4 + 1))) else (some false)) else (laws_FnSumsOfPrimes.l0 k4 t315 t316 t324 t332 t333 t334 t335 t316 (t316.length : Int) (wrap64 (x246_4 + 1)))))) else (some false)) = some r := by rw [if_pos rfl] at H; exact H
                                    clear H
                                    have H := H1
                                    clear H1
                                    by_cases c99 : t348 = true
                                    · subst c99
                                      have H1 : (if (rd t316 x246_4) > t315 then (some false) else (if x246_4 > 0 then (if 0 ≤ (wrap64 (x246_4 - 1)) then (if (wrap64 (x246_4 - 1)) < (t316.length : Int) then (if (rd t316 (wrap64 (x246_4 - 1))) ≥ (rd t316 x246_4) then (some false) else (if (rd t316 x246_4) > 3 then (if (Int.tmod (rd t316 x246_4) 6) = 5 then (laws_FnSumsOfPrimes.l0 k4 t315 t316 t324 t332 t333 t334 t335 t316 (t316.length : Int) (wrap64 (x246_4 + 1))) else (some false)) else (laws_FnSumsOfPrimes.l0 k4 t315 t316 t324 t332 t333 t334 t335 t316 (t316.length : Int) (wrap64 (x246_4 + 1))))) else (none)) else (none)) else (if (rd t316 x246_4) > 3 then (if (Int.tmod (rd t316 x246_4) 6) = 5 then (laws_FnSumsOfPrimes.l0 k4 t315 t316 t324 t332 t333 t334 t335 t316 (t316.length : Int) (wrap64 (x246_4 + 1))) else (some false)) else (laws_FnSumsOfPrimes.l0 k4 t315 t316 t324 t332 t333 t334 t335 t316 (t316.length : Int) (wrap64 (x246_4 + 1)))))) = some r := by rw [if_pos rfl] at H; exact H
                                      clear H
                                      have H := H1
                                      clear H1
                                      by_cases c100 : (rd t316 x246_4) > t315
                                      · as_aux_lemma =>
                                        rw [if_pos c100] at H
                                        have c100b0 : decide (t315 < (rd t316 x246_4)) = true := decide_eq_true c100
                                        clear c100
                                        obtain rfl := Option.some.inj H
                                        have p345 : 0 ≤ (x246_4 : Int) := of_decide_eq_true (by first | (with_reducible assumption) | assumption)
                                        have q345 : x246_4 < (t316.length : Int) := of_decide_eq_true (by first | (with_reducible assumption) | assumption)
                                        obtain ⟨ad345, e345, hx345_0⟩ := Kd.at_int (Kd.R_reads' HO_244.out).2.2 x246_4 p345 q345
                                        cases e345
                                        replace p345 := eq_true p345
                                        replace q345 := eq_true q345
                                        go_wp2_with (first | ((with_reducible refine gate_callee (f := 12) rfl ?_); refine goesL_ (some 253) rfl rfl Try.func12 (by kernel_rfl) rfl #[.int .i64 (rd t316 x246_4)] rfl (by (try simp only [List.map_toArray, List.map_cons, List.map_nil]); first | done | rfl | (simp only [List.length_drop, List.length_take]; rfl)) ?_; (with_reducible refine (impl_IsPrime.calls k4 (rd t316 x246_4) true true _ A94.out).mono ?_); rintro e w' ⟨rfl, ⟨nd, rfl⟩⟩; refine ⟨_, rfl, ?_⟩) | ((with_reducible refine gate_callee (f := 12) rfl ?_); refine goesL_ (some 259) rfl rfl Try.func12 (by kernel_rfl) rfl #[.int .i64 (wrap64 ((rd t316 x246_4) + 2))] rfl (by (try simp only [List.map_toArray, List.map_cons, List.map_nil]); first | done | rfl | (simp only [List.length_drop, List.length_take]; rfl)) ?_; (with_reducible refine (impl_IsPrime.calls k4 (wrap64 ((rd t316 x246_4) + 2)) true true _ A95.out).mono ?_); rintro e w' ⟨rfl, ⟨nd, rfl⟩⟩; refine ⟨_, rfl, ?_⟩))
                                        go_ret
                                        exact ⟨by first | rfl | (simp [errW_none, errW_some] <;> rfl) | (simp [*, errW_none, errW_some] <;> rfl), by repeat (first | (with_reducible first | exact HB.out | apply below_alloc | apply pw_below_drewN | apply below_drew1) | exact HB.out)⟩
                                      · as_aux_lemma =>
                                        rw [if_neg c100] at H
                                        have c100b0 : decide (t315 < (rd t316 x246_4)) = false := decide_eq_false c100
                                        clear c100
                                        by_cases c101 : x246_4 > 0
                                        · as_aux_lemma =>
                                          rw [if_pos c101] at H
                                          have c101b0 : decide (0 < x246_4) = true := decide_eq_true c101
                                          clear c101
                                          obtain ⟨ji102, hji102⟩ : ∃ j_ : Int, (wrap64 (x246_4 - 1)) = j_ := ⟨_, rfl⟩
                                          replace H : (if 0 ≤ (ji102) then (if (ji102) < (t316.length : Int) then (if (rd t316 (ji102)) ≥ (rd t316 x246_4) then (some false) else (if (rd t316 x246_4) > 3 then (if (Int.tmod (rd t316 x246_4) 6) = 5 then (laws_FnSumsOfPrimes.l0 k4 t315 t316 t324 t332 t333 t334 t335 t316 (t316.length : Int) (wrap64 (x246_4 + 1))) else (some false)) else (laws_FnSumsOfPrimes.l0 k4 t315 t316 t324 t332 t333 t334 t335 t316 (t316.length : Int) (wrap64 (x246_4 + 1))))) else (none)) else (none)) = some r := by first | (rw [hji102] at H; exact H) | (simp only [hji102] at H ⊢; exact H)
                                          (try rw [hji102] at A94)
                                          (try rw [hji102] at A95)
                                          have hji102w : (IntKind.i64.wrap (x246_4 - 1)) = ji102 := (i64_w _).trans hji102
                                          by_cases c103 : 0 ≤ (ji102)
                                          · as_aux_lemma =>
                                            rw [if_pos c103] at H
                                            have c103b0 : decide (0 ≤ (ji102)) = true := decide_eq_true c103
                                            clear c103
                                            by_cases c104 : (ji102) < (t316.length : Int)
                                            · as_aux_lemma =>
                                              rw [if_pos c104] at H
                                              have c104b0 : decide ((ji102) < (t316.length : Int)) = true := decide_eq_true c104
                                              clear c104
                                              by_cases c105 : (rd t316 (ji102)) ≥ (rd t316 x246_4)
                                              · as_aux_lemma =>
                                                rw [if_pos c105] at H
                                                have c105b0 : decide ((rd t316 x246_4) ≤ (rd t316 (ji102))) = true := decide_eq_true c105
                                                clear c105
                                                obtain rfl := Option.some.inj H
                                                have p345 : 0 ≤ (x246_4 : Int) := of_decide_eq_true (by first | (with_reducible assumption) | assumption)
                                                have q345 : x246_4 < (t316.length : Int) := of_decide_eq_true (by first | (with_reducible assumption) | assumption)
                                                obtain ⟨ad345, e345, hx345_0⟩ := Kd.at_int (Kd.R_reads' HO_244.out).2.2 x246_4 p345 q345
                                                cases e345
                                                replace p345 := eq_true p345
                                                replace q345 := eq_true q345
                                                go_wp2_with (first | ((with_reducible refine gate_callee (f := 12) rfl ?_); refine goesL_ (some 253) rfl rfl Try.func12 (by kernel_rfl) rfl #[.int .i64 (rd t316 x246_4)] rfl (by (try simp only [List.map_toArray, List.map_cons, List.map_nil]); first | done | rfl | (simp only [List.length_drop, List.length_take]; rfl)) ?_; (with_reducible refine (impl_IsPrime.calls k4 (rd t316 x246_4) true true _ A94.out).mono ?_); rintro e w' ⟨rfl, ⟨nd, rfl⟩⟩; refine ⟨_, rfl, ?_⟩) | ((with_reducible refine gate_callee (f := 12) rfl ?_); refine goesL_ (some 259) rfl rfl Try.func12 (by kernel_rfl) rfl #[.int .i64 (wrap64 ((rd t316 x246_4) + 2))] rfl (by (try simp only [List.map_toArray, List.map_cons, List.map_nil]); first | done | rfl | (simp only [List.length_drop, List.length_take]; rfl)) ?_; (with_reducible refine (impl_IsPrime.calls k4 (wrap64 ((rd t316 x246_4) + 2)) true true _ A95.out).mono ?_); rintro e w' ⟨rfl, ⟨nd, rfl⟩⟩; refine ⟨_, rfl, ?_⟩; have p350 : 0 ≤ ((ji102) : Int) := of_decide_eq_true (by first | (with_reducible assumption) | assumption); have q350 : (ji102) < (t316.length : Int) := of_decide_eq_true (by first | (with_reducible assumption) | assumption); obtain ⟨ad350, e350, hx350_0⟩ := Kd.at_int (Kd.R_reads' HO_21.out).2.2 (ji102) p350 q350; obtain rfl : ad345 = ad350 := (by injection e350); replace p350 := eq_true p350; replace q350 := eq_true q350))
                                                go_ret
                                                exact ⟨by first | rfl | (simp [errW_none, errW_some] <;> rfl) | (simp only [← hji102]; first | rfl | (simp [errW_none, errW_some] <;> rfl)) | (simp [*, errW_none, errW_some] <;> rfl), by repeat (first | (with_reducible first | exact HB.out | apply below_alloc | apply pw_below_drewN | apply below_drew1) | exact HB.out)⟩
                                              · as_aux_lemma =>
                                                rw [if_neg c105] at H
                                                have c105b0 : decide ((rd t316 x246_4) ≤ (rd t316 (ji102))) = false := decide_eq_false c105
                                                clear c105
                                                by_cases c106 : (rd t316 x246_4) > 3
                                                · as_aux_lemma =>
                                                  rw [if_pos c106] at H
                                                  have c106b0 : decide (3 < (rd t316 x246_4)) = true := decide_eq_true c106
                                                  clear c106
                                                  by_cases c107 : (Int.tmod (rd t316 x246_4) 6) = 5
                                                  · as_aux_lemma =>
                                                    rw [if_pos c107] at H
                                                    have c107b0 : ((Int.tmod (rd t316 x246_4) 6) == 5) = true := beq_iff_eq.mpr c107
                                                    have c107b1 : ((Int.tmod (rd t316 x246_4) 6) != 5) = false := bne_eq_false_iff_eq.mpr c107
                                                    clear c107
                                                    have H' := Aside0.mk H
                                                    clear H
                                                    have p345 : 0 ≤ (x246_4 : Int) := of_decide_eq_true (by first | (with_reducible assumption) | assumption)
                                                    have q345 : x246_4 < (t316.length : Int) := of_decide_eq_true (by first | (with_reducible assumption) | assumption)
                                                    obtain ⟨ad345, e345, hx345_0⟩ := Kd.at_int (Kd.R_reads' HO_244.out).2.2 x246_4 p345 q345
                                                    cases e345
                                                    replace p345 := eq_true p345
                                                    replace q345 := eq_true q345
                                                    go_wp2_with (first | ((with_reducible refine gate_callee (f := 12) rfl ?_); refine goesL_ (some 253) rfl rfl Try.func12 (by kernel_rfl) rfl #[.int .i64 (rd t316 x246_4)] rfl (by (try simp only [List.map_toArray, List.map_cons, List.map_nil]); first | done | rfl | (simp only [List.length_drop, List.length_take]; rfl)) ?_; (with_reducible refine (impl_IsPrime.calls k4 (rd t316 x246_4) true true _ A94.out).mono ?_); rintro e w' ⟨rfl, ⟨nd, rfl⟩⟩; refine ⟨_, rfl, ?_⟩) | ((with_reducible refine gate_callee (f := 12) rfl ?_); refine goesL_ (some 259) rfl rfl Try.func12 (by kernel_rfl) rfl #[.int .i64 (wrap64 ((rd t316 x246_4) + 2))] rfl (by (try simp only [List.map_toArray, List.map_cons, List.map_nil]); first | done | rfl | (simp only [List.length_drop, List.length_take]; rfl)) ?_; (with_reducible refine (impl_IsPrime.calls k4 (wrap64 ((rd t316 x246_4) + 2)) true true _ A95.out).mono ?_); rintro e w' ⟨rfl, ⟨nd, rfl⟩⟩; refine ⟨_, rfl, ?_⟩; have p350 : 0 ≤ ((ji102) : Int) := of_decide_eq_true (by first | (with_reducible assumption) | assumption); have q350 : (ji102) < (t316.length : Int) := of_decide_eq_true (by first | (with_reducible assumption) | assumption); obtain ⟨ad350, e350, hx350_0⟩ := Kd.at_int (Kd.R_reads' HO_21.out).2.2 (ji102) p350 q350; obtain rfl : ad345 = ad350 := (by injection e350); replace p350 := eq_true p350; replace q350 := eq_true q350))
                                                    first | go_roundg k4 | (try subst hji102; go_roundg k4)
                                                    case measure => have := HJ9.out; have := HJ25.out; have := HJ46.out; have := HK4.out; omega
                                                    case rel => exact ⟨(wrap64 (x246_4 + 1)), (by first | rfl | (simp; done) | (simp [*]; done)), H', ⟨by have := HJ9.out; have := HJ25.out; have := HJ46.out; have := HK4.out; omega⟩, ⟨by (with_reducible repeat (first | apply Kd.R_alloc | apply Kd.R_drewN | apply Kd.R_drew)); exact HO_21.out⟩, ⟨by (with_reducible repeat (first | apply Kd.R_alloc | apply Kd.R_drewN | apply Kd.R_drew)); exact HO_25.out⟩, ⟨by (with_reducible repeat (first | apply Kd.R_alloc | apply Kd.R_drewN | apply Kd.R_drew)); exact HO_31.out⟩, ⟨by (with_reducible repeat (first | apply Kd.R_alloc | apply Kd.R_drewN | apply Kd.R_drew)); exact HO_244.out⟩, ⟨by repeat (first | (with_reducible first | exact HB.out | apply below_alloc | apply pw_below_drewN | apply below_drew1) | exact HB.out)⟩⟩
                                                  · as_aux_lemma =>
                                                    rw [if_neg c107] at H
                                                    have c107b0 : ((Int.tmod (rd t316 x246_4) 6) == 5) = false := beq_eq_false_iff_ne.mpr c107
                                                    have c107b1 : ((Int.tmod (rd t316 x246_4) 6) != 5) = true := bne_iff_ne.mpr c107
                                                    obtain rfl := Option.some.inj H
                                                    have p345 : 0 ≤ (x246_4 : Int) := of_decide_eq_true (by first | (with_reducible assumption) | assumption)
                                                    have q345 : x246_4 < (t316.length : Int) := of_decide_eq_true (by first | (with_reducible assumption) | assumption)
                                                    obtain ⟨ad345, e345, hx345_0⟩ := Kd.at_int (Kd.R_reads' HO_244.out).2.2 x246_4 p345 q345
                                                    cases e345
                                                    replace p345 := eq_true p345
                                                    replace q345 := eq_true q345
                                                    go_wp2_with (first | ((with_reducible refine gate_callee (f := 12) rfl ?_); refine goesL_ (some 253) rfl rfl Try.func12 (by kernel_rfl) rfl #[.int .i64 (rd t316 x246_4)] rfl (by (try simp only [List.map_toArray, List.map_cons, List.map_nil]); first | done | rfl | (simp only [List.length_drop, List.length_take]; rfl)) ?_; (with_reducible refine (impl_IsPrime.calls k4 (rd t316 x246_4) true true _ A94.out).mono ?_); rintro e w' ⟨rfl, ⟨nd, rfl⟩⟩; refine ⟨_, rfl, ?_⟩) | ((with_reducible refine gate_callee (f := 12) rfl ?_); refine goesL_ (some 259) rfl rfl Try.func12 (by kernel_rfl) rfl #[.int .i64 (wrap64 ((rd t316 x246_4) + 2))] rfl (by (try simp only [List.map_toArray, List.map_cons, List.map_nil]); first | done | rfl | (simp only [List.length_drop, List.length_take]; rfl)) ?_; (with_reducible refine (impl_IsPrime.calls k4 (wrap64 ((rd t316 x246_4) + 2)) true true _ A95.out).mono ?_); rintro e w' ⟨rfl, ⟨nd, rfl⟩⟩; refine ⟨_, rfl, ?_⟩; have p350 : 0 ≤ ((ji102) : Int) := of_decide_eq_true (by first | (with_reducible assumption) | assumption); have q350 : (ji102) < (t316.length : Int) := of_decide_eq_true (by first | (with_reducible assumption) | assumption); obtain ⟨ad350, e350, hx350_0⟩ := Kd.at_int (Kd.R_reads' HO_21.out).2.2 (ji102) p350 q350; obtain rfl : ad345 = ad350 := (by injection e350); replace p350 := eq_true p350; replace q350 := eq_true q350))
                                                    go_ret
                                                    exact ⟨by first | rfl | (simp [errW_none, errW_some] <;> rfl) | (simp only [← hji102]; first | rfl | (simp [errW_none, errW_some] <;> rfl)) | (simp [*, errW_none, errW_some] <;> rfl), by repeat (first | (with_reducible first | exact HB.out | apply below_alloc | apply pw_below_drewN | apply below_drew1) | exact HB.out)⟩
                                                · as_aux_lemma =>
                                                  rw [if_neg c106] at H
                                                  have c106b0 : decide (3 < (rd t316 x246_4)) = false := decide_eq_false c106
                                                  clear c106
                                                  have H' := Aside0.mk H
                                                  clear H
                                                  have p345 : 0 ≤ (x246_4 : Int) := of_decide_eq_true (by first | (with_reducible assumption) | assumption)
                                                  have q345 : x246_4 < (t316.length : Int) := of_decide_eq_true (by first | (with_reducible assumption) | assumption)
                                                  obtain ⟨ad345, e345, hx345_0⟩ := Kd.at_int (Kd.R_reads' HO_244.out).2.2 x246_4 p345 q345
                                                  cases e345
                                                  replace p345 := eq_true p345
                                                  replace q345 := eq_true q345
                                                  go_wp2_with (first | ((with_reducible refine gate_callee (f := 12) rfl ?_); refine goesL_ (some 253) rfl rfl Try.func12 (by kernel_rfl) rfl #[.int .i64 (rd t316 x246_4)] rfl (by (try simp only [List.map_toArray, List.map_cons, List.map_nil]); first | done | rfl | (simp only [List.length_drop, List.length_take]; rfl)) ?_; (with_reducible refine (impl_IsPrime.calls k4 (rd t316 x246_4) true true _ A94.out).mono ?_); rintro e w' ⟨rfl, ⟨nd, rfl⟩⟩; refine ⟨_, rfl, ?_⟩) | ((with_reducible refine gate_callee (f := 12) rfl ?_); refine goesL_ (some 259) rfl rfl Try.func12 (by kernel_rfl) rfl #[.int .i64 (wrap64 ((rd t316 x246_4) + 2))] rfl (by (try simp only [List.map_toArray, List.map_cons, List.map_nil]); first | done | rfl | (simp only [List.length_drop, List.length_take]; rfl)) ?_; (with_reducible refine (impl_IsPrime.calls k4 (wrap64 ((rd t316 x246_4) + 2)) true true _ A95.out).mono ?_); rintro e w' ⟨rfl, ⟨nd, rfl⟩⟩; refine ⟨_, rfl, ?_⟩; have p350 : 0 ≤ ((ji102) : Int) := of_decide_eq_true (by first | (with_reducible assumption) | assumption); have q350 : (ji102) < (t316.length : Int) := of_decide_eq_true (by first | (with_reducible assumption) | assumption); obtain ⟨ad350, e350, hx350_0⟩ := Kd.at_int (Kd.R_reads' HO_21.out).2.2 (ji102) p350 q350; obtain rfl : ad345 = ad350 := (by injection e350); replace p350 := eq_true p350; replace q350 := eq_true q350))
                                                  first | go_roundg k4 | (try subst hji102; go_roundg k4)
                                                  case measure => have := HJ9.out; have := HJ25.out; have := HJ46.out; have := HK4.out; omega
                                                  case rel => exact ⟨(wrap64 (x246_4 + 1)), (by first | rfl | (simp; done) | (simp [*]; done)), H', ⟨by have := HJ9.out; have := HJ25.out; have := HJ46.out; have := HK4.out; omega⟩, ⟨by (with_reducible repeat (first | apply Kd.R_alloc | apply Kd.R_drewN | apply Kd.R_drew)); exact HO_21.out⟩, ⟨by (with_reducible repeat (first | apply Kd.R_alloc | apply Kd.R_drewN | apply Kd.R_drew)); exact HO_25.out⟩, ⟨by (with_reducible repeat (first | apply Kd.R_alloc | apply Kd.R_drewN | apply Kd.R_drew)); exact HO_31.out⟩, ⟨by (with_reducible repeat (first | apply Kd.R_alloc | apply Kd.R_drewN | apply Kd.R_drew)); exact HO_244.out⟩, ⟨by repeat (first | (with_reducible first | exact HB.out | apply below_alloc | apply pw_below_drewN | apply below_drew1) | exact HB.out)⟩⟩
                                            · as_aux_lemma =>
                                              rw [if_neg c104] at H
                                              exact absurd H (by simp)
                                          · as_aux_lemma =>
                                            rw [if_neg c103] at H
                                            exact absurd H (by simp)
                                        · as_aux_lemma =>
                                          rw [if_neg c101] at H
                                          have c101b0 : decide (0 < x246_4) = false := decide_eq_false c101
                                          clear c101
                                          by_cases c108 : (rd t316 x246_4) > 3
                                          · as_aux_lemma =>
                                            rw [if_pos c108] at H
                                            have c108b0 : decide (3 < (rd t316 x246_4)) = true := decide_eq_true c108
                                            clear c108
                                            by_cases c109 : (Int.tmod (rd t316 x246_4) 6) = 5
                                            · as_aux_lemma =>
                                              rw [if_pos c109] at H
                                              have c109b0 : ((Int.tmod (rd t316 x246_4) 6) == 5) = true := beq_iff_eq.mpr c109
                                              have c109b1 : ((Int.tmod (rd t316 x246_4) 6) != 5) = false := bne_eq_false_iff_eq.mpr c109
                                              clear c109
                                              have H' := Aside0.mk H
                                              clear H
                                              have p345 : 0 ≤ (x246_4 : Int) := of_decide_eq_true (by first | (with_reducible assumption) | assumption)
                                              have q345 : x246_4 < (t316.length : Int) := of_decide_eq_true (by first | (with_reducible assumption) | assumption)
                                              obtain ⟨ad345, e345, hx345_0⟩ := Kd.at_int (Kd.R_reads' HO_244.out).2.2 x246_4 p345 q345
                                              cases e345
                                              replace p345 := eq_true p345
                                              replace q345 := eq_true q345
                                              go_wp2_with (first | ((with_reducible refine gate_callee (f := 12) rfl ?_); refine goesL_ (some 253) rfl rfl Try.func12 (by kernel_rfl) rfl #[.int .i64 (rd t316 x246_4)] rfl (by (try simp only [List.map_toArray, List.map_cons, List.map_nil]); first | done | rfl | (simp only [List.length_drop, List.length_take]; rfl)) ?_; (with_reducible refine (impl_IsPrime.calls k4 (rd t316 x246_4) true true _ A94.out).mono ?_); rintro e w' ⟨rfl, ⟨nd, rfl⟩⟩; refine ⟨_, rfl, ?_⟩) | ((with_reducible refine gate_callee (f := 12) rfl ?_); refine goesL_ (some 259) rfl rfl Try.func12 (by kernel_rfl) rfl #[.int .i64 (wrap64 ((rd t316 x246_4) + 2))] rfl (by (try simp only [List.map_toArray, List.map_cons, List.map_nil]); first | done | rfl | (simp only [List.length_drop, List.length_take]; rfl)) ?_; (with_reducible refine (impl_IsPrime.calls k4 (wrap64 ((rd t316 x246_4) + 2)) true true _ A95.out).mono ?_); rintro e w' ⟨rfl, ⟨nd, rfl⟩⟩; refine ⟨_, rfl, ?_⟩))
                                              first | go_roundg k4 | (try subst hji102; go_roundg k4)
                                              case measure => have := HJ9.out; have := HJ25.out; have := HJ46.out; have := HK4.out; omega
                                              case rel => exact ⟨(wrap64 (x246_4 + 1)), (by first | rfl | (simp; done) | (simp [*]; done)), H', ⟨by have := HJ9.out; have := HJ25.out; have := HJ46.out; have := HK4.out; omega⟩, ⟨by (with_reducible repeat (first | apply Kd.R_alloc | apply Kd.R_drewN | apply Kd.R_drew)); exact HO_21.out⟩, ⟨by (with_reducible repeat (first | apply Kd.R_alloc | apply Kd.R_drewN | apply Kd.R_drew)); exact HO_25.out⟩, ⟨by (with_reducible repeat (first | apply Kd.R_alloc | apply Kd.R_drewN | apply Kd.R_drew)); exact HO_31.out⟩, ⟨by (with_reducible repeat (first | apply Kd.R_alloc | apply Kd.R_drewN | apply Kd.R_drew)); exact HO_244.out⟩, ⟨by repeat (first | (with_reducible first | exact HB.out | apply below_alloc | apply pw_below_drewN | apply below_drew1) | exact HB.out)⟩⟩
                                            · as_aux_lemma =>
                                              rw [if_neg c109] at H
                                              have c109b0 : ((Int.tmod (rd t316 x246_4) 6) == 5) = false := beq_eq_false_iff_ne.mpr c109
                                              have c109b1 : ((Int.tmod (rd t316 x246_4) 6) != 5) = true := bne_iff_ne.mpr c109
                                              obtain rfl := Option.some.inj H
                                              have p345 : 0 ≤ (x246_4 : Int) := of_decide_eq_true (by first | (with_reducible assumption) | assumption)
                                              have q345 : x246_4 < (t316.length : Int) := of_decide_eq_true (by first | (with_reducible assumption) | assumption)
                                              obtain ⟨ad345, e345, hx345_0⟩ := Kd.at_int (Kd.R_reads' HO_244.out).2.2 x246_4 p345 q345
                                              cases e345
                                              replace p345 := eq_true p345
                                              replace q345 := eq_true q345
                                              go_wp2_with (first | ((with_reducible refine gate_callee (f := 12) rfl ?_); refine goesL_ (some 253) rfl rfl Try.func12 (by kernel_rfl) rfl #[.int .i64 (rd t316 x246_4)] rfl (by (try simp only [List.map_toArray, List.map_cons, List.map_nil]); first | done | rfl | (simp only [List.length_drop, List.length_take]; rfl)) ?_; (with_reducible refine (impl_IsPrime.calls k4 (rd t316 x246_4) true true _ A94.out).mono ?_); rintro e w' ⟨rfl, ⟨nd, rfl⟩⟩; refine ⟨_, rfl, ?_⟩) | ((with_reducible refine gate_callee (f := 12) rfl ?_); refine goesL_ (some 259) rfl rfl Try.func12 (by kernel_rfl) rfl #[.int .i64 (wrap64 ((rd t316 x246_4) + 2))] rfl (by (try simp only [List.map_toArray, List.map_cons, List.map_nil]); first | done | rfl | (simp only [List.length_drop, List.length_take]; rfl)) ?_; (with_reducible refine (impl_IsPrime.calls k4 (wrap64 ((rd t316 x246_4) + 2)) true true _ A95.out).mono ?_); rintro e w' ⟨rfl, ⟨nd, rfl⟩⟩; refine ⟨_, rfl, ?_⟩))
                                              go_ret
                                              exact ⟨by first | rfl | (simp [errW_none, errW_some] <;> rfl) | (simp [*, errW_none, errW_some] <;> rfl), by repeat (first | (with_reducible first | exact HB.out | apply below_alloc | apply pw_below_drewN | apply below_drew1) | exact HB.out)⟩
                                          · as_aux_lemma =>
                                            rw [if_neg c108] at H
                                            have c108b0 : decide (3 < (rd t316 x246_4)) = false := decide_eq_false c108
                                            clear c108
                                            have H' := Aside0.mk H
                                            clear H
                                            have p345 : 0 ≤ (x246_4 : Int) := of_decide_eq_true (by first | (with_reducible assumption) | assumption)
                                            have q345 : x246_4 < (t316.length : Int) := of_decide_eq_true (by first | (with_reducible assumption) | assumption)
                                            obtain ⟨ad345, e345, hx345_0⟩ := Kd.at_int (Kd.R_reads' HO_244.out).2.2 x246_4 p345 q345
                                            cases e345
                                            replace p345 := eq_true p345
                                            replace q345 := eq_true q345
                                            go_wp2_with (first | ((with_reducible refine gate_callee (f := 12) rfl ?_); refine goesL_ (some 253) rfl rfl Try.func12 (by kernel_rfl) rfl #[.int .i64 (rd t316 x246_4)] rfl (by (try simp only [List.map_toArray, List.map_cons, List.map_nil]); first | done | rfl | (simp only [List.length_drop, List.length_take]; rfl)) ?_; (with_reducible refine (impl_IsPrime.calls k4 (rd t316 x246_4) true true _ A94.out).mono ?_); rintro e w' ⟨rfl, ⟨nd, rfl⟩⟩; refine ⟨_, rfl, ?_⟩) | ((with_reducible refine gate_callee (f := 12) rfl ?_); refine goesL_ (some 259) rfl rfl Try.func12 (by kernel_rfl) rfl #[.int .i64 (wrap64 ((rd t316 x246_4) + 2))] rfl (by (try simp only [List.map_toArray, List.map_cons, List.map_nil]); first | done | rfl | (simp only [List.length_drop, List.length_take]; rfl)) ?_; (with_reducible refine (impl_IsPrime.calls k4 (wrap64 ((rd t316 x246_4) + 2)) true true _ A95.out).mono ?_); rintro e w' ⟨rfl, ⟨nd, rfl⟩⟩; refine ⟨_, rfl, ?_⟩))
                                            first | go_roundg k4 | (try subst hji102; go_roundg k4)
                                            case measure => have := HJ9.out; have := HJ25.out; have := HJ46.out; have := HK4.out; omega
                                            case rel => exact ⟨(wrap64 (x246_4 + 1)), (by first | rfl | (simp; done) | (simp [*]; done)), H', ⟨by have := HJ9.out; have := HJ25.out; have := HJ46.out; have := HK4.out; omega⟩, ⟨by (with_reducible repeat (first | apply Kd.R_alloc | apply Kd.R_drewN | apply Kd.R_drew)); exact HO_21.out⟩, ⟨by (with_reducible repeat (first | apply Kd.R_alloc | apply Kd.R_drewN | apply Kd.R_drew)); exact HO_25.out⟩, ⟨by (with_reducible repeat (first | apply Kd.R_alloc | apply Kd.R_drewN | apply Kd.R_drew)); exact HO_31.out⟩, ⟨by (with_reducible repeat (first | apply Kd.R_alloc | apply Kd.R_drewN | apply Kd.R_drew)); exact HO_244.out⟩, ⟨by repeat (first | (with_reducible first | exact HB.out | apply below_alloc | apply pw_below_drewN | apply below_drew1) | exact HB.out)⟩⟩
                                    · replace c99 := Bool.eq_false_iff.mpr c99
                                      subst c99
                                      have H1 : (some false) = some r := by rw [if_neg (show ¬ (false = true) by decide)] at H; exact H
                                      clear H
                                      have H := H1
                                      clear H1
                                      obtain rfl := Option.some.inj H
                                      have p345 : 0 ≤ (x246_4 : Int) := of_decide_eq_true (by first | (with_reducible assumption) | assumption)
                                      have q345 : x246_4 < (t316.length : Int) := of_decide_eq_true (by first | (with_reducible assumption) | assumption)
                                      obtain ⟨ad345, e345, hx345_0⟩ := Kd.at_int (Kd.R_reads' HO_244.out).2.2 x246_4 p345 q345
                                      cases e345
                                      replace p345 := eq_true p345
                                      replace q345 := eq_true q345
                                      go_wp2_with (first | ((with_reducible refine gate_callee (f := 12) rfl ?_); refine goesL_ (some 253) rfl rfl Try.func12 (by kernel_rfl) rfl #[.int .i64 (rd t316 x246_4)] rfl (by (try simp only [List.map_toArray, List.map_cons, List.map_nil]); first | done | rfl | (simp only [List.length_drop, List.length_take]; rfl)) ?_; (with_reducible refine (impl_IsPrime.calls k4 (rd t316 x246_4) true true _ A94.out).mono ?_); rintro e w' ⟨rfl, ⟨nd, rfl⟩⟩; refine ⟨_, rfl, ?_⟩) | ((with_reducible refine gate_callee (f := 12) rfl ?_); refine goesL_ (some 259) rfl rfl Try.func12 (by kernel_rfl) rfl #[.int .i64 (wrap64 ((rd t316 x246_4) + 2))] rfl (by (try simp only [List.map_toArray, List.map_cons, List.map_nil]); first | done | rfl | (simp only [List.length_drop, List.length_take]; rfl)) ?_; (with_reducible refine (impl_IsPrime.calls k4 (wrap64 ((rd t316 x246_4) + 2)) false true _ A95.out).mono ?_); rintro e w' ⟨rfl, ⟨nd, rfl⟩⟩; refine ⟨_, rfl, ?_⟩))
                                      go_ret
                                      exact ⟨by first | rfl | (simp [errW_none, errW_some] <;> rfl) | (simp [*, errW_none, errW_some] <;> rfl), by repeat (first | (with_reducible first | exact HB.out | apply below_alloc | apply pw_below_drewN | apply below_drew1) | exact HB.out)⟩
                                  · replace c98 := Bool.eq_false_iff.mpr c98
                                    subst c98
                                    have H1 : (some false) = some r := by rw [if_neg (show ¬ (false = true) by decide)] at H; exact H
                                    clear H
                                    have H := H1
                                    clear H1
                                    obtain rfl := Option.some.inj H
                                    have p345 : 0 ≤ (x246_4 : Int) := of_decide_eq_true (by first | (with_reducible assumption) | assumption)
                                    have q345 : x246_4 < (t316.length : Int) := of_decide_eq_true (by first | (with_reducible assumption) | assumption)
                                    obtain ⟨ad345, e345, hx345_0⟩ := Kd.at_int (Kd.R_reads' HO_244.out).2.2 x246_4 p345 q345
                                    cases e345
                                    replace p345 := eq_true p345
                                    replace q345 := eq_true q345
                                    go_wp2_with (first | ((with_reducible refine gate_callee (f := 12) rfl ?_); refine goesL_ (some 253) rfl rfl Try.func12 (by kernel_rfl) rfl #[.int .i64 (rd t316 x246_4)] rfl (by (try simp only [List.map_toArray, List.map_cons, List.map_nil]); first | done | rfl | (simp only [List.length_drop, List.length_take]; rfl)) ?_; (with_reducible refine (impl_IsPrime.calls k4 (rd t316 x246_4) true true _ A94.out).mono ?_); rintro e w' ⟨rfl, ⟨nd, rfl⟩⟩; refine ⟨_, rfl, ?_⟩) | ((with_reducible refine gate_callee (f := 12) rfl ?_); refine goesL_ (some 259) rfl rfl Try.func12 (by kernel_rfl) rfl #[.int .i64 (wrap64 ((rd t316 x246_4) + 2))] rfl (by (try simp only [List.map_toArray, List.map_cons, List.map_nil]); first | done | rfl | (simp only [List.length_drop, List.length_take]; rfl)) ?_; (with_reducible refine (impl_IsPrime.calls k4 (wrap64 ((rd t316 x246_4) + 2)) t348 false _ A95.out).mono ?_); rintro e w' ⟨rfl, ⟨nd, rfl⟩⟩; refine ⟨_, rfl, ?_⟩))
                                    go_ret
                                    exact ⟨by first | rfl | (simp [errW_none, errW_some] <;> rfl) | (simp [*, errW_none, errW_some] <;> rfl), by repeat (first | (with_reducible first | exact HB.out | apply below_alloc | apply pw_below_drewN | apply below_drew1) | exact HB.out)⟩
                                · replace c97 := Bool.eq_false_iff.mpr c97
                                  subst c97
                                  have H1 : (some false) = some r := by rw [if_neg (show ¬ (false = true) by decide)] at H; exact H
                                  clear H
                                  have H := H1
                                  clear H1
                                  obtain rfl := Option.some.inj H
                                  have p345 : 0 ≤ (x246_4 : Int) := of_decide_eq_true (by first | (with_reducible assumption) | assumption)
                                  have q345 : x246_4 < (t316.length : Int) := of_decide_eq_true (by first | (with_reducible assumption) | assumption)
                                  obtain ⟨ad345, e345, hx345_0⟩ := Kd.at_int (Kd.R_reads' HO_244.out).2.2 x246_4 p345 q345
                                  cases e345
                                  replace p345 := eq_true p345
                                  replace q345 := eq_true q345
                                  go_wp2_with (first | ((with_reducible refine gate_callee (f := 12) rfl ?_); refine goesL_ (some 253) rfl rfl Try.func12 (by kernel_rfl) rfl #[.int .i64 (rd t316 x246_4)] rfl (by (try simp only [List.map_toArray, List.map_cons, List.map_nil]); first | done | rfl | (simp only [List.length_drop, List.length_take]; rfl)) ?_; (with_reducible refine (impl_IsPrime.calls k4 (rd t316 x246_4) false true _ A94.out).mono ?_); rintro e w' ⟨rfl, ⟨nd, rfl⟩⟩; refine ⟨_, rfl, ?_⟩) | ((with_reducible refine gate_callee (f := 12) rfl ?_); refine goesL_ (some 259) rfl rfl Try.func12 (by kernel_rfl) rfl #[.int .i64 (wrap64 ((rd t316 x246_4) + 2))] rfl (by (try simp only [List.map_toArray, List.map_cons, List.map_nil]); first | done | rfl | (simp only [List.length_drop, List.length_take]; rfl)) ?_; (with_reducible refine (impl_IsPrime.calls k4 (wrap64 ((rd t316 x246_4) + 2)) t348 t349 _ A95.out).mono ?_); rintro e w' ⟨rfl, ⟨nd, rfl⟩⟩; refine ⟨_, rfl, ?_⟩))
                                  go_ret
                                  exact ⟨by first | rfl | (simp [errW_none, errW_some] <;> rfl) | (simp [*, errW_none, errW_some] <;> rfl), by repeat (first | (with_reducible first | exact HB.out | apply below_alloc | apply pw_below_drewN | apply below_drew1) | exact HB.out)⟩
                              · replace c96 := Bool.eq_false_iff.mpr c96
                                subst c96
                                have H1 : (some false) = some r := by rw [if_neg (show ¬ (false = true) by decide)] at H; exact H
                                clear H
                                have H := H1
                                clear H1
                                obtain rfl := Option.some.inj H
                                have p345 : 0 ≤ (x246_4 : Int) := of_decide_eq_true (by first | (with_reducible assumption) | assumption)
                                have q345 : x246_4 < (t316.length : Int) := of_decide_eq_true (by first | (with_reducible assumption) | assumption)
                                obtain ⟨ad345, e345, hx345_0⟩ := Kd.at_int (Kd.R_reads' HO_244.out).2.2 x246_4 p345 q345
                                cases e345
                                replace p345 := eq_true p345
                                replace q345 := eq_true q345
                                go_wp2_with (first | ((with_reducible refine gate_callee (f := 12) rfl ?_); refine goesL_ (some 253) rfl rfl Try.func12 (by kernel_rfl) rfl #[.int .i64 (rd t316 x246_4)] rfl (by (try simp only [List.map_toArray, List.map_cons, List.map_nil]); first | done | rfl | (simp only [List.length_drop, List.length_take]; rfl)) ?_; (with_reducible refine (impl_IsPrime.calls k4 (rd t316 x246_4) t346 false _ A94.out).mono ?_); rintro e w' ⟨rfl, ⟨nd, rfl⟩⟩; refine ⟨_, rfl, ?_⟩) | ((with_reducible refine gate_callee (f := 12) rfl ?_); refine goesL_ (some 259) rfl rfl Try.func12 (by kernel_rfl) rfl #[.int .i64 (wrap64 ((rd t316 x246_4) + 2))] rfl (by (try simp only [List.map_toArray, List.map_cons, List.map_nil]); first | done | rfl | (simp only [List.length_drop, List.length_take]; rfl)) ?_; (with_reducible refine (impl_IsPrime.calls k4 (wrap64 ((rd t316 x246_4) + 2)) t348 t349 _ A95.out).mono ?_); rintro e w' ⟨rfl, ⟨nd, rfl⟩⟩; refine ⟨_, rfl, ?_⟩))
                                go_ret
                                exact ⟨by first | rfl | (simp [errW_none, errW_some] <;> rfl) | (simp [*, errW_none, errW_some] <;> rfl), by repeat (first | (with_reducible first | exact HB.out | apply below_alloc | apply pw_below_drewN | apply below_drew1) | exact HB.out)⟩
                            · as_aux_lemma =>
                              rw [if_neg c93] at H
                              exact absurd H (by simp)
                          · as_aux_lemma =>
                            rw [if_neg c92] at H
                            exact absurd H (by simp)
                        · as_aux_lemma =>
                          rw [if_neg c91] at H
                          have c91b0 : decide (x246_4 < (t316.length : Int)) = false := decide_eq_false c91
                          clear c91
                          have H' := Aside0.mk H
                          clear H
                          obtain ⟨Ao110, co110, eo110⟩ := Kd.R_slice HO_25.out
                          subst eo110
                          go_wp2
                          go_loopg [306] k4 (fun kq v306 w' => ∃ (x306_5 : Int), v306 = .int .i64 x306_5 ∧ Aside0 (laws_FnSumsOfPrimes.l1 kq t315 t332 t333 t334 t335 t324 (t324.length : Int) x306_5 = some r) ∧ Aside0 (kq ≤ k4) ∧ Aside0 (Kd.R (Kd.int .i64) 3 w' w.heap.size (fun k_ => some k_ ≠ ((.slice Ao110 t324.length co110) : Value).ownBlock) v336 t334) ∧ Aside0 (Kd.R (Kd.int .i64) 3 w' w.heap.size (fun k_ => some k_ ≠ (v336 : Value).ownBlock) (.slice Ao110 t324.length co110) t324) ∧ Aside0 (Below w.heap.size w w'))
                          case atStart => exact ⟨(0), (by first | rfl | (simp; done) | (simp [*]; done)), H', ⟨Nat.le_refl _⟩, ⟨by (with_reducible repeat (first | apply Kd.R_alloc | apply Kd.R_drewN | apply Kd.R_drew)); exact Kd.R_mono HO_31.out (fun _ hk => hk.2.1)⟩, ⟨by (with_reducible repeat (first | apply Kd.R_alloc | apply Kd.R_drewN | apply Kd.R_drew)); exact Kd.R_mono HO_25.out (fun _ hk => hk.2.1)⟩, ⟨by repeat (first | (with_reducible first | exact HB.out | apply below_alloc | apply pw_below_drewN | apply below_drew1) | exact HB.out)⟩⟩
                          case round =>
                            as_aux_lemma =>
                            clear H'
                            try clear c1
                            try clear c2
                            try clear p2
                            try clear c3
                            try clear p3
                            try clear q3
                            try clear hx3
                            try clear c4
                            try clear c5
                            try clear c6
                            try clear p6
                            try clear c7
                            try clear c8
                            try clear c9
                            try clear c10
                            try clear c11
                            try clear c12
                            try clear c13
                            try clear c14
                            try clear c15
                            try clear c16
                            try clear c16b0
                            try clear c16b1
                            try clear c16b2
                            try clear c17
                            try clear c17b0
                            try clear c17b1
                            try clear c18
                            try clear c18b0
                            try clear c18b1
                            try clear c19
                            try clear c19b0
                            try clear c19b1
                            try clear c19b2
                            try clear c20
                            try clear c20b0
                            try clear c20b1
                            try clear c21
                            try clear c22
                            try clear c22b0
                            try clear c22b1
                            try clear c22b2
                            try clear c23
                            try clear c23b0
                            try clear c23b1
                            try clear c24
                            try clear c24b0
                            try clear c24b1
                            try clear c24b2
                            try clear c25
                            try clear c27
                            try clear c30
                            try clear c30b0
                            try clear c30b1
                            try clear c31
                            try clear c31b0
                            try clear c32
                            try clear c33
                            try clear c34
                            try clear p34
                            try clear q34
                            try clear hx34
                            try clear c35
                            try clear p35
                            try clear q35
                            try clear hx35
                            try clear c36
                            try clear c36b0
                            try clear c36b1
                            try clear c37
                            try clear c37b0
                            try clear c37b1
                            try clear c38
                            try clear c38b0
                            try clear c38b1
                            try clear c56
                            try clear c56b0
                            try clear c56b1
                            try clear c56b2
                            try clear c58
                            try clear c59
                            try clear c59b0
                            try clear c59b1
                            try clear c59b2
                            try clear c63
                            try clear c64
                            try clear c64b0
                            try clear c64b1
                            try clear c64b2
                            try clear p64
                            try clear c70
                            try clear c89
                            try clear c91
                            try clear c91b0
                            try clear c92
                            try clear c92b0
                            try clear c93
                            try clear c93b0
                            try clear c96
                            try clear c97
                            try clear c98
                            try clear c99
                            try clear c100
                            try clear c100b0
                            try clear c101
                            try clear c101b0
                            try clear c103
                            try clear c103b0
                            try clear c104
                            try clear c104b0
                            try clear c105
                            try clear c105b0
                            try clear c106
                            try clear c106b0
                            try clear c107
                            try clear c107b0
                            try clear c107b1
                            try clear c108
                            try clear c108b0
                            try clear c109
                            try clear c109b0
                            try clear c109b1
                            try clear hx345_0
                            try clear hx350_0
                            try clear p2
                            try clear p345
                            try clear p350
                            try clear p6
                            try clear p64
                            try clear q345
                            try clear q350
                            obtain ⟨x306_5, rfl, HA, HK5, HO_31, HO_304, HB⟩ := hrel
                            cases gk with
                            | zero => exact absurd HA.out (by simp [laws_FnSumsOfPrimes.l1])
                            | succ k5 =>
                              have H := HA.out
                              clear HA
                              simp only [laws_FnSumsOfPrimes.l1] at H
                              by_cases c111 : x306_5 < (t324.length : Int)
                              · as_aux_lemma =>
                                rw [if_pos c111] at H
                                have c111b0 : decide (x306_5 < (t324.length : Int)) = true := decide_eq_true c111
                                clear c111
                                by_cases c112 : 0 ≤ x306_5
                                · as_aux_lemma =>
                                  rw [if_pos c112] at H
                                  have c112b0 : decide (0 ≤ x306_5) = true := decide_eq_true c112
                                  clear c112
                                  by_cases c113 : x306_5 < (t324.length : Int)
                                  · as_aux_lemma =>
                                    rw [if_pos c113] at H
                                    have c113b0 : decide (x306_5 < (t324.length : Int)) = true := decide_eq_true c113
                                    clear c113
                                    replace H := Option.bind_eq_some_iff.mp H
                                    obtain ⟨⟨t352, t353⟩, A1140, H⟩ := H
                                    replace H : (if t353 = true then (if t352 = true then (if (wrap64 ((rd t324 x306_5) * (rd t324 x306_5))) > t315 then (some false) else (laws_FnSumsOfPrimes.l1 k5 t315 t332 t333 t334 t335 t324 (t324.length : Int) (wrap64 (x306_5 + 1)))) else (some false)) else (some false)) = some r := H
                                    have A114 := Aside0.mk A1140
                                    clear A1140
                                    by_cases c115 : t353 = true
                                    · subst c115
                                      have H1 : (if t352 = true then (if (wrap64 ((rd t324 x306_5) * (rd t324 x306_5))) > t315 then (some false) else (laws_FnSumsOfPrimes.l1 k5 t315 t332 t333 t334 t335 t324 (t324.length : Int) (wrap64 (x306_5 + 1)))) else (some false)) = some r := by rw [if_pos rfl] at H; exact H
                                      clear H
                                      have H := H1
                                      clear H1
                                      by_cases c116 : t352 = true
                                      · subst c116
                                        have H1 : (if (wrap64 ((rd t324 x306_5) * (rd t324 x306_5))) > t315 then (some false) else (laws_FnSumsOfPrimes.l1 k5 t315 t332 t333 t334 t335 t324 (t324.length : Int) (wrap64 (x306_5 + 1)))) = some r := by rw [if_pos rfl] at H; exact H
                                        clear H
                                        have H := H1
                                        clear H1
                                        by_cases c117 : (wrap64 ((rd t324 x306_5) * (rd t324 x306_5))) > t315
                                        · as_aux_lemma =>
                                          rw [if_pos c117] at H
                                          have c117b0 : decide (t315 < (wrap64 ((rd t324 x306_5) * (rd t324 x306_5)))) = true := decide_eq_true c117
                                          clear c117
                                          obtain rfl := Option.some.inj H
                                          have p351 : 0 ≤ (x306_5 : Int) := of_decide_eq_true (by first | (with_reducible assumption) | assumption)
                                          have q351 : x306_5 < (t324.length : Int) := of_decide_eq_true (by first | (with_reducible assumption) | assumption)
                                          obtain ⟨ad351, e351, hx351_0⟩ := Kd.at_int (Kd.R_reads' HO_304.out).2.2 x306_5 p351 q351
                                          cases e351
                                          replace p351 := eq_true p351
                                          replace q351 := eq_true q351
                                          go_wp2_with (first | ((with_reducible refine gate_callee (f := 12) rfl ?_); refine goesL_ (some 312) rfl rfl Try.func12 (by kernel_rfl) rfl #[.int .i64 (rd t324 x306_5)] rfl (by (try simp only [List.map_toArray, List.map_cons, List.map_nil]); first | done | rfl | (simp only [List.length_drop, List.length_take]; rfl)) ?_; (with_reducible refine (impl_IsPrime.calls k5 (rd t324 x306_5) true true _ A114.out).mono ?_); rintro e w' ⟨rfl, ⟨nd, rfl⟩⟩; refine ⟨_, rfl, ?_⟩))
                                          go_ret
                                          exact ⟨by first | rfl | (simp [errW_none, errW_some] <;> rfl) | (simp [*, errW_none, errW_some] <;> rfl), by repeat (first | (with_reducible first | exact HB.out | apply below_alloc | apply pw_below_drewN | apply below_drew1) | exact HB.out)⟩
                                        · as_aux_lemma =>
                                          rw [if_neg c117] at H
                                          have c117b0 : decide (t315 < (wrap64 ((rd t324 x306_5) * (rd t324 x306_5)))) = false := decide_eq_false c117
                                          clear c117
                                          have H' := Aside0.mk H
                                          clear H
                                          have p351 : 0 ≤ (x306_5 : Int) := of_decide_eq_true (by first | (with_reducible assumption) | assumption)
                                          have q351 : x306_5 < (t324.length : Int) := of_decide_eq_true (by first | (with_reducible assumption) | assumption)
                                          obtain ⟨ad351, e351, hx351_0⟩ := Kd.at_int (Kd.R_reads' HO_304.out).2.2 x306_5 p351 q351
                                          cases e351
                                          replace p351 := eq_true p351
                                          replace q351 := eq_true q351
                                          go_wp2_with (first | ((with_reducible refine gate_callee (f := 12) rfl ?_); refine goesL_ (some 312) rfl rfl Try.func12 (by kernel_rfl) rfl #[.int .i64 (rd t324 x306_5)] rfl (by (try simp only [List.map_toArray, List.map_cons, List.map_nil]); first | done | rfl | (simp only [List.length_drop, List.length_take]; rfl)) ?_; (with_reducible refine (impl_IsPrime.calls k5 (rd t324 x306_5) true true _ A114.out).mono ?_); rintro e w' ⟨rfl, ⟨nd, rfl⟩⟩; refine ⟨_, rfl, ?_⟩))
                                          first | go_roundg k5 | (try subst hji102; go_roundg k5)
                                          case measure => have := HJ9.out; have := HJ25.out; have := HJ46.out; have := HK4.out; have := HK5.out; omega
                                          case rel => exact ⟨(wrap64 (x306_5 + 1)), (by first | rfl | (simp; done) | (simp [*]; done)), H', ⟨by have := HJ9.out; have := HJ25.out; have := HJ46.out; have := HK4.out; have := HK5.out; omega⟩, ⟨by (with_reducible repeat (first | apply Kd.R_alloc | apply Kd.R_drewN | apply Kd.R_drew)); exact HO_31.out⟩, ⟨by (with_reducible repeat (first | apply Kd.R_alloc | apply Kd.R_drewN | apply Kd.R_drew)); exact HO_304.out⟩, ⟨by repeat (first | (with_reducible first | exact HB.out | apply below_alloc | apply pw_below_drewN | apply below_drew1) | exact HB.out)⟩⟩
                                      · replace c116 := Bool.eq_false_iff.mpr c116
                                        subst c116
                                        have H1 : (some false) = some r := by rw [if_neg (show ¬ (false = true) by decide)] at H; exact H
                                        clear H
                                        have H := H1
                                        clear H1
                                        obtain rfl := Option.some.inj H
                                        have p351 : 0 ≤ (x306_5 : Int) := of_decide_eq_true (by first | (with_reducible assumption) | assumption)
                                        have q351 : x306_5 < (t324.length : Int) := of_decide_eq_true (by first | (with_reducible assumption) | assumption)
                                        obtain ⟨ad351, e351, hx351_0⟩ := Kd.at_int (Kd.R_reads' HO_304.out).2.2 x306_5 p351 q351
                                        cases e351
                                        replace p351 := eq_true p351
                                        replace q351 := eq_true q351
                                        go_wp2_with (first | ((with_reducible refine gate_callee (f := 12) rfl ?_); refine goesL_ (some 312) rfl rfl Try.func12 (by kernel_rfl) rfl #[.int .i64 (rd t324 x306_5)] rfl (by (try simp only [List.map_toArray, List.map_cons, List.map_nil]); first | done | rfl | (simp only [List.length_drop, List.length_take]; rfl)) ?_; (with_reducible refine (impl_IsPrime.calls k5 (rd t324 x306_5) false true _ A114.out).mono ?_); rintro e w' ⟨rfl, ⟨nd, rfl⟩⟩; refine ⟨_, rfl, ?_⟩))
                                        go_ret
                                        exact ⟨by first | rfl | (simp [errW_none, errW_some] <;> rfl) | (simp [*, errW_none, errW_some] <;> rfl), by repeat (first | (with_reducible first | exact HB.out | apply below_alloc | apply pw_below_drewN | apply below_drew1) | exact HB.out)⟩
                                    · replace c115 := Bool.eq_false_iff.mpr c115
                                      subst c115
                                      have H1 : (some false) = some r := by rw [if_neg (show ¬ (false = true) by decide)] at H; exact H
                                      clear H
                                      have H := H1
                                      clear H1
                                      obtain rfl := Option.some.inj H
                                      have p351 : 0 ≤ (x306_5 : Int) := of_decide_eq_true (by first | (with_reducible assumption) | assumption)
                                      have q351 : x306_5 < (t324.length : Int) := of_decide_eq_true (by first | (with_reducible assumption) | assumption)
                                      obtain ⟨ad351, e351, hx351_0⟩ := Kd.at_int (Kd.R_reads' HO_304.out).2.2 x306_5 p351 q351
                                      cases e351
                                      replace p351 := eq_true p351
                                      replace q351 := eq_true q351
                                      go_wp2_with (first | ((with_reducible refine gate_callee (f := 12) rfl ?_); refine goesL_ (some 312) rfl rfl Try.func12 (by kernel_rfl) rfl #[.int .i64 (rd t324 x306_5)] rfl (by (try simp only [List.map_toArray, List.map_cons, List.map_nil]); first | done | rfl | (simp only [List.length_drop, List.length_take]; rfl)) ?_; (with_reducible refine (impl_IsPrime.calls k5 (rd t324 x306_5) t352 false _ A114.out).mono ?_); rintro e w' ⟨rfl, ⟨nd, rfl⟩⟩; refine ⟨_, rfl, ?_⟩))
                                      go_ret
                                      exact ⟨by first | rfl | (simp [errW_none, errW_some] <;> rfl) | (simp [*, errW_none, errW_some] <;> rfl), by repeat (first | (with_reducible first | exact HB.out | apply below_alloc | apply pw_below_drewN | apply below_drew1) | exact HB.out)⟩
                                  · as_aux_lemma =>
                                    rw [if_neg c113] at H
                                    exact absurd H (by simp)
                                · as_aux_lemma =>
                                  rw [if_neg c112] at H
                                  exact absurd H (by simp)
                              · as_aux_lemma =>
                                rw [if_neg c111] at H
                                have c111b0 : decide (x306_5 < (t324.length : Int)) = false := decide_eq_false c111
                                clear c111
                                have H' := Aside0.mk H
                                clear H
                                go_wp2
                                go_loopg [45] k5 (fun kq v45 w' => ∃ (x45_6 : Int), v45 = .int .i64 x45_6 ∧ Aside0 (laws_FnSumsOfPrimes.l2 kq t332 t333 t334 t335 x45_6 = some r) ∧ Aside0 (kq ≤ k5) ∧ Aside0 (Kd.R (Kd.int .i64) 3 w' w.heap.size (fun _ => True) v336 t334) ∧ Aside0 (Below w.heap.size w w'))
                                case atStart => exact ⟨(1), (by first | rfl | (simp; done) | (simp [*]; done)), H', ⟨Nat.le_refl _⟩, ⟨by (with_reducible repeat (first | apply Kd.R_alloc | apply Kd.R_drewN | apply Kd.R_drew)); exact Kd.R_mono HO_31.out (fun _ hk => trivial)⟩, ⟨by repeat (first | (with_reducible first | exact HB.out | apply below_alloc | apply pw_below_drewN | apply below_drew1) | exact HB.out)⟩⟩
                                case round =>
                                  as_aux_lemma =>
                                  clear H'
                                  try clear c1
                                  try clear c2
                                  try clear p2
                                  try clear c3
                                  try clear p3
                                  try clear q3
                                  try clear hx3
                                  try clear c4
                                  try clear c5
                                  try clear c6
                                  try clear p6
                                  try clear c7
                                  try clear c8
                                  try clear c9
                                  try clear c10
                                  try clear c11
                                  try clear c12
                                  try clear c13
                                  try clear c14
                                  try clear c15
                                  try clear c16
                                  try clear c16b0
                                  try clear c16b1
                                  try clear c16b2
                                  try clear c17
                                  try clear c17b0
                                  try clear c17b1
                                  try clear c18
                                  try clear c18b0
                                  try clear c18b1
                                  try clear c19
                                  try clear c19b0
                                  try clear c19b1
                                  try clear c19b2
                                  try clear c20
                                  try clear c20b0
                                  try clear c20b1
                                  try clear c21
                                  try clear c22
                                  try clear c22b0
                                  try clear c22b1
                                  try clear c22b2
                                  try clear c23
                                  try clear c23b0
                                  try clear c23b1
                                  try clear c24
                                  try clear c24b0
                                  try clear c24b1
                                  try clear c24b2
                                  try clear c25
                                  try clear c27
                                  try clear c30
                                  try clear c30b0
                                  try clear c30b1
                                  try clear c31
                                  try clear c31b0
                                  try clear c32
                                  try clear c33
                                  try clear c34
                                  try clear p34
                                  try clear q34
                                  try clear hx34
                                  try clear c35
                                  try clear p35
                                  try clear q35
                                  try clear hx35
                                  try clear c36
                                  try clear c36b0
                                  try clear c36b1
                                  try clear c37
                                  try clear c37b0
                                  try clear c37b1
                                  try clear c38
                                  try clear c38b0
                                  try clear c38b1
                                  try clear c56
                                  try clear c56b0
                                  try clear c56b1
                                  try clear c56b2
                                  try clear c58
                                  try clear c59
                                  try clear c59b0
                                  try clear c59b1
                                  try clear c59b2
                                  try clear c63
                                  try clear c64
                                  try clear c64b0
                                  try clear c64b1
                                  try clear c64b2
                                  try clear p64
                                  try clear c70
                                  try clear c89
                                  try clear c91
                                  try clear c91b0
                                  try clear c92
                                  try clear c92b0
                                  try clear c93
                                  try clear c93b0
                                  try clear c96
                                  try clear c97
                                  try clear c98
                                  try clear c99
                                  try clear c100
                                  try clear c100b0
                                  try clear c101
                                  try clear c101b0
                                  try clear c103
                                  try clear c103b0
                                  try clear c104
                                  try clear c104b0
                                  try clear c105
                                  try clear c105b0
                                  try clear c106
                                  try clear c106b0
                                  try clear c107
                                  try clear c107b0
                                  try clear c107b1
                                  try clear c108
                                  try clear c108b0
                                  try clear c109
                                  try clear c109b0
                                  try clear c109b1
                                  try clear c111
                                  try clear c111b0
                                  try clear c112
                                  try clear c112b0
                                  try clear c113
                                  try clear c113b0
                                  try clear c115
                                  try clear c116
                                  try clear c117
                                  try clear c117b0
                                  try clear hx345_0
                                  try clear hx350_0
                                  try clear hx351_0
                                  try clear p2
                                  try clear p3
                                  try clear p34
                                  try clear p345
                                  try clear p35
                                  try clear p350
                                  try clear p351
                                  try clear p6
                                  try clear p64
                                  try clear q3
                                  try clear q34
                                  try clear q345
                                  try clear q35
                                  try clear q350
                                  try clear q351
                                  obtain ⟨x45_6, rfl, HA, HK6, HO_31, HB⟩ := hrel
                                  cases gk with
                                  | zero => exact absurd HA.out (by simp [laws_FnSumsOfPrimes.l2])
                                  | succ k6 =>
                                    have H := HA.out
                                    clear HA
                                    simp only [laws_FnSumsOfPrimes.l2] at H
                                    have HC118 := Aside0.mk H
                                    clear H
                                    go_upto_region 41 with (fail)
                                    go_cut [334] (fun v334 wc => ∃ (kq : Nat) (x334_117 : Bool), v334 = .bool x334_117 ∧ Aside0 (laws_FnSumsOfPrimes.j6 kq t332 t333 t334 t335 x45_6 x334_117 = some r) ∧ Aside0 (kq ≤ k6) ∧ Aside0 (Kd.R (Kd.int .i64) 3 wc w.heap.size (fun _ => True) v336 t334) ∧ Aside0 (Below w.heap.size w wc))
                                    case first =>
                                      as_aux_lemma =>
                                      have H := HC118.out
                                      clear HC118
                                      by_cases c119 : t335 = true
                                      · subst c119
                                        have H1 : (laws_FnSumsOfPrimes.j6 k6 t332 t333 t334 true x45_6 (decide (x45_6 ≤ t332))) = some r := by rw [if_pos rfl] at H; exact H
                                        clear H
                                        have H := H1
                                        clear H1
                                        have H' := Aside0.mk H
                                        clear H
                                        go_wp2
                                        go_meet
                                        case rel => exact ⟨_, (decide (x45_6 ≤ t332)), (by first | rfl | (simp; done) | (simp [*]; done)), H', ⟨by have := HJ9.out; have := HJ25.out; have := HJ46.out; have := HK4.out; have := HK5.out; have := HK6.out; first | omega | exact Nat.le_refl _⟩, ⟨by (with_reducible repeat (first | apply Kd.R_alloc | apply Kd.R_drewN | apply Kd.R_drew)); exact HO_31.out⟩, ⟨by repeat (first | (with_reducible first | exact HB.out | apply below_alloc | apply pw_below_drewN | apply below_drew1) | exact HB.out)⟩⟩
                                      · replace c119 := Bool.eq_false_iff.mpr c119
                                        subst c119
                                        have H1 : (laws_FnSumsOfPrimes.j6 k6 t332 t333 t334 false x45_6 false) = some r := by rw [if_neg (show ¬ (false = true) by decide)] at H; exact H
                                        clear H
                                        have H := H1
                                        clear H1
                                        have H' := Aside0.mk H
                                        clear H
                                        go_wp2
                                        go_meet
                                        case rel => exact ⟨_, (false), (by first | rfl | (simp; done) | (simp [*]; done)), H', ⟨by have := HJ9.out; have := HJ25.out; have := HJ46.out; have := HK4.out; have := HK5.out; have := HK6.out; first | omega | exact Nat.le_refl _⟩, ⟨by (with_reducible repeat (first | apply Kd.R_alloc | apply Kd.R_drewN | apply Kd.R_drew)); exact HO_31.out⟩, ⟨by repeat (first | (with_reducible first | exact HB.out | apply below_alloc | apply pw_below_drewN | apply below_drew1) | exact HB.out)⟩⟩
                                    case rest =>
                                      as_aux_lemma =>
                                      clear HC118
                                      try clear c1
                                      try clear c2
                                      try clear p2
                                      try clear c3
                                      try clear p3
                                      try clear q3
                                      try clear hx3
                                      try clear c4
                                      try clear c5
                                      try clear c6
                                      try clear p6
                                      try clear c7
                                      try clear c8
                                      try clear c9
                                      try clear c10
                                      try clear c11
                                      try clear c12
                                      try clear c13
                                      try clear c14
                                      try clear c15
                                      try clear c16
                                      try clear c16b0
                                      try clear c16b1
                                      try clear c16b2
                                      try clear c17
                                      try clear c17b0
                                      try clear c17b1
                                      try clear c18
                                      try clear c18b0
                                      try clear c18b1
                                      try clear c19
                                      try clear c19b0
                                      try clear c19b1
                                      try clear c19b2
                                      try clear c20
                                      try clear c20b0
                                      try clear c20b1
                                      try clear c21
                                      try clear c22
                                      try clear c22b0
                                      try clear c22b1
                                      try clear c22b2
                                      try clear c23
                                      try clear c23b0
                                      try clear c23b1
                                      try clear c24
                                      try clear c24b0
                                      try clear c24b1
                                      try clear c24b2
                                      try clear c25
                                      try clear c27
                                      try clear c30
                                      try clear c30b0
                                      try clear c30b1
                                      try clear c31
                                      try clear c31b0
                                      try clear c32
                                      try clear c33
                                      try clear c34
                                      try clear p34
                                      try clear q34
                                      try clear hx34
                                      try clear c35
                                      try clear p35
                                      try clear q35
                                      try clear hx35
                                      try clear c36
                                      try clear c36b0
                                      try clear c36b1
                                      try clear c37
                                      try clear c37b0
                                      try clear c37b1
                                      try clear c38
                                      try clear c38b0
                                      try clear c38b1
                                      try clear c56
                                      try clear c56b0
                                      try clear c56b1
                                      try clear c56b2
                                      try clear c58
                                      try clear c59
                                      try clear c59b0
                                      try clear c59b1
                                      try clear c59b2
                                      try clear c63
                                      try clear c64
                                      try clear c64b0
                                      try clear c64b1
                                      try clear c64b2
                                      try clear p64
                                      try clear c70
                                      try clear c89
                                      try clear c91
                                      try clear c91b0
                                      try clear c92
                                      try clear c92b0
                                      try clear c93
                                      try clear c93b0
                                      try clear c96
                                      try clear c97
                                      try clear c98
                                      try clear c99
                                      try clear c100
                                      try clear c100b0
                                      try clear c101
                                      try clear c101b0
                                      try clear c103
                                      try clear c103b0
                                      try clear c104
                                      try clear c104b0
                                      try clear c105
                                      try clear c105b0
                                      try clear c106
                                      try clear c106b0
                                      try clear c107
                                      try clear c107b0
                                      try clear c107b1
                                      try clear c108
                                      try clear c108b0
                                      try clear c109
                                      try clear c109b0
                                      try clear c109b1
                                      try clear c111
                                      try clear c111b0
                                      try clear c112
                                      try clear c112b0
                                      try clear c113
                                      try clear c113b0
                                      try clear c115
                                      try clear c116
                                      try clear c117
                                      try clear c117b0
                                      try clear c119
                                      try clear hx345_0
                                      try clear hx350_0
                                      try clear hx351_0
                                      try clear p2
                                      try clear p3
                                      try clear p34
                                      try clear p345
                                      try clear p35
                                      try clear p350
                                      try clear p351
                                      try clear p6
                                      try clear p64
                                      try clear q3
                                      try clear q34
                                      try clear q345
                                      try clear q35
                                      try clear q350
                                      try clear q351
                                      obtain ⟨kq, x334_117, rfl, HA, HJ117, HO_31, HB⟩ := hcut
                                      cases kq with
                                      | zero => exact absurd HA.out (by simp [laws_FnSumsOfPrimes.j6])
                                      | succ kj117 =>
                                        have H := HA.out
                                        clear HA
                                        simp only [laws_FnSumsOfPrimes.j6] at H
                                        by_cases c120 : x334_117 = true
                                        · subst c120
                                          have H1 : ((impl_IsSmooth.f kj117 x45_6 t333).bind fun bt354 => (if bt354.2 = true then ((laws_gHas.f kj117 t334 x45_6).bind fun t356 => (if (bt354.1 != t356) = true then (some false) else (laws_FnSumsOfPrimes.l2 kj117 t332 t333 t334 t335 (wrap64 (x45_6 + 1))))) else (some false))) = some r := by rw [if_pos rfl] at H; exact H
                                          clear H
                                          have H := H1
                                          clear H1
                                          replace H := Option.bind_eq_some_iff.mp H
                                          obtain ⟨⟨t354, t355⟩, A1210, H⟩ := H
                                          replace H : (if t355 = true then ((laws_gHas.f kj117 t334 x45_6).bind fun t356 => (if (t354 != t356) = true then (some false) else (laws_FnSumsOfPrimes.l2 kj117 t332 t333 t334 t335 (wrap64 (x45_6 + 1))))) else (some false)) = some r := H
                                          have A121 := Aside0.mk A1210
                                          clear A1210
                                          by_cases c122 : t355 = true
                                          · subst c122
                                            have H1 : ((laws_gHas.f kj117 t334 x45_6).bind fun t356 => (if (t354 != t356) = true then (some false) else (laws_FnSumsOfPrimes.l2 kj117 t332 t333 t334 t335 (wrap64 (x45_6 + 1))))) = some r := by rw [if_pos rfl] at H; exact H
                                            clear H
                                            have H := H1
                                            clear H1
                                            replace H := Option.bind_eq_some_iff.mp H
                                            obtain ⟨t356, A1230, H⟩ := H
                                            replace H : (if (t354 != t356) = true then (some false) else (laws_FnSumsOfPrimes.l2 kj117 t332 t333 t334 t335 (wrap64 (x45_6 + 1)))) = some r := H
                                            have A123 := Aside0.mk A1230
                                            clear A1230
                                            by_cases c124 : (t354 != t356) = true
                                            · as_aux_lemma =>
                                              rw [if_pos c124] at H
                                              have c124b0 : (t354 != t356) = true := c124
                                              (try (have c124b1 : decide (t354 = t356) = false := by simpa using c124))
                                              (try (have c124b2 : (t354 == t356) = false := by simpa using c124))
                                              (try (have c124b3 : ¬ (t354 = t356) := by simpa using c124))
                                              clear c124
                                              obtain rfl := Option.some.inj H
                                              go_wp2_with (first | ((with_reducible refine gate_callee (f := 20) rfl ?_); refine goesL_ (some 340) rfl rfl Try.func20 (by kernel_rfl) rfl #[.int .i64 x45_6, .int .i64 t333] rfl (by (try simp only [List.map_toArray, List.map_cons, List.map_nil]); first | done | rfl | (simp only [List.length_drop, List.length_take]; rfl)) ?_; (with_reducible refine (impl_IsSmooth.calls kj117 x45_6 t333 t354 true _ A121.out).mono ?_); rintro e w125 ⟨rfl, hb⟩; refine ⟨_, rfl, ?_⟩; have n0_ := Aside0.mk (Kd.R_below (by (with_reducible repeat (first | apply Kd.R_alloc | apply Kd.R_drewN | apply Kd.R_drew)); exact HO_31.out) hb); have n1_ := Aside0.mk (below_step (by repeat (first | (with_reducible first | exact HB.out | apply below_alloc | apply pw_below_drewN | apply below_drew1) | exact HB.out)) hb); clear HO_31; clear HB; have HO_31 := n0_; have HB := n1_; clear n0_ n1_; (try clear hb); (try clear hb2); (try clear hk); (try clear hi); obtain ⟨Ao126, co126, eo126⟩ := Kd.R_slice HO_31.out; subst eo126) | (go_at_call 21; (with_reducible refine (laws_gHas.calls kj117 _ _ t334 x45_6 t356 _ ?side1 ?side2 A123.out).mono ?_); (case side1 => repeat (first | exact (Kd.R_reads' HO_31.out).2.2 | (with_reducible refine Kd.C_alloc ?_ _) | (with_reducible refine Kd.C_drewN ?_ _) | (with_reducible refine Kd.C_drew ?_))); (case side2 => exact (Kd.R_reads' HO_31.out).2.1); rintro e w' ⟨rfl, ⟨nd, rfl⟩⟩))
                                              go_ret
                                              exact ⟨by first | rfl | (simp [errW_none, errW_some] <;> rfl) | (simp [*, errW_none, errW_some] <;> rfl), by repeat (first | (with_reducible first | exact HB.out | apply below_alloc | apply pw_below_drewN | apply below_drew1) | exact HB.out)⟩
                                            · as_aux_lemma =>
                                              rw [if_neg c124] at H
                                              have c124b0 : (t354 != t356) = false := by simpa using c124
                                              (try (have c124b1 : decide (t354 = t356) = true := by simpa using c124))
                                              (try (have c124b2 : (t354 == t356) = true := by simpa using c124))
                                              clear c124
                                              have H' := Aside0.mk H
                                              clear H
                                              go_wp2_with (first | ((with_reducible refine gate_callee (f := 20) rfl ?_); refine goesL_ (some 340) rfl rfl Try.func20 (by kernel_rfl) rfl #[.int .i64 x45_6, .int .i64 t333] rfl (by (try simp only [List.map_toArray, List.map_cons, List.map_nil]); first | done | rfl | (simp only [List.length_drop, List.length_take]; rfl)) ?_; (with_reducible refine (impl_IsSmooth.calls kj117 x45_6 t333 t354 true _ A121.out).mono ?_); rintro e w127 ⟨rfl, hb⟩; refine ⟨_, rfl, ?_⟩; have n0_ := Aside0.mk (Kd.R_below (by (with_reducible repeat (first | apply Kd.R_alloc | apply Kd.R_drewN | apply Kd.R_drew)); exact HO_31.out) hb); have n1_ := Aside0.mk (below_step (by repeat (first | (with_reducible first | exact HB.out | apply below_alloc | apply pw_below_drewN | apply below_drew1) | exact HB.out)) hb); clear HO_31; clear HB; have HO_31 := n0_; have HB := n1_; clear n0_ n1_; (try clear hb); (try clear hb2); (try clear hk); (try clear hi); obtain ⟨Ao128, co128, eo128⟩ := Kd.R_slice HO_31.out; subst eo128) | (go_at_call 21; (with_reducible refine (laws_gHas.calls kj117 _ _ t334 x45_6 t356 _ ?side1 ?side2 A123.out).mono ?_); (case side1 => repeat (first | exact (Kd.R_reads' HO_31.out).2.2 | (with_reducible refine Kd.C_alloc ?_ _) | (with_reducible refine Kd.C_drewN ?_ _) | (with_reducible refine Kd.C_drew ?_))); (case side2 => exact (Kd.R_reads' HO_31.out).2.1); rintro e w' ⟨rfl, ⟨nd, rfl⟩⟩))
                                              first | go_roundg kj117 | (try subst hji102; go_roundg kj117)
                                              case measure => have := HJ9.out; have := HJ25.out; have := HJ46.out; have := HK4.out; have := HK5.out; have := HK6.out; have := HJ117.out; omega
                                              case rel => exact ⟨(wrap64 (x45_6 + 1)), (by first | rfl | (simp; done) | (simp [*]; done)), H', ⟨by have := HJ9.out; have := HJ25.out; have := HJ46.out; have := HK4.out; have := HK5.out; have := HK6.out; have := HJ117.out; omega⟩, ⟨by (with_reducible repeat (first | apply Kd.R_alloc | apply Kd.R_drewN | apply Kd.R_drew)); exact HO_31.out⟩, ⟨by repeat (first | (with_reducible first | exact HB.out | apply below_alloc | apply pw_below_drewN | apply below_drew1) | exact HB.out)⟩⟩
                                          · replace c122 := Bool.eq_false_iff.mpr c122
                                            subst c122
                                            have H1 : (some false) = some r := by rw [if_neg (show ¬ (false = true) by decide)] at H; exact H
                                            clear H
                                            have H := H1
                                            clear H1
                                            obtain rfl := Option.some.inj H
                                            go_wp2_with (first | ((with_reducible refine gate_callee (f := 20) rfl ?_); refine goesL_ (some 340) rfl rfl Try.func20 (by kernel_rfl) rfl #[.int .i64 x45_6, .int .i64 t333] rfl (by (try simp only [List.map_toArray, List.map_cons, List.map_nil]); first | done | rfl | (simp only [List.length_drop, List.length_take]; rfl)) ?_; (with_reducible refine (impl_IsSmooth.calls kj117 x45_6 t333 t354 false _ A121.out).mono ?_); rintro e w129 ⟨rfl, hb⟩; refine ⟨_, rfl, ?_⟩; have n0_ := Aside0.mk (Kd.R_below (by (with_reducible repeat (first | apply Kd.R_alloc | apply Kd.R_drewN | apply Kd.R_drew)); exact HO_31.out) hb); have n1_ := Aside0.mk (below_step (by repeat (first | (with_reducible first | exact HB.out | apply below_alloc | apply pw_below_drewN | apply below_drew1) | exact HB.out)) hb); clear HO_31; clear HB; have HO_31 := n0_; have HB := n1_; clear n0_ n1_; (try clear hb); (try clear hb2); (try clear hk); (try clear hi)))
                                            go_ret
                                            exact ⟨by first | rfl | (simp [errW_none, errW_some] <;> rfl) | (simp [*, errW_none, errW_some] <;> rfl), by repeat (first | (with_reducible first | exact HB.out | apply below_alloc | apply pw_below_drewN | apply below_drew1) | exact HB.out)⟩
                                        · replace c120 := Bool.eq_false_iff.mpr c120
                                          subst c120
                                          have H1 : (some true) = some r := by rw [if_neg (show ¬ (false = true) by decide)] at H; exact H
                                          clear H
                                          have H := H1
                                          clear H1
                                          obtain rfl := Option.some.inj H
                                          go_wp2
                                          go_ret
                                          exact ⟨by first | rfl | (simp [errW_none, errW_some] <;> rfl) | (simp [*, errW_none, errW_some] <;> rfl), by repeat (first | (with_reducible first | exact HB.out | apply below_alloc | apply pw_below_drewN | apply below_drew1) | exact HB.out)⟩

/-- THE ONE PURE STATEMENT of laws_FnSumsOfPrimes: yours. -/
def laws_FnSumsOfPrimes.Pure : Prop := ∀ (l0 : List Int) (l1 : List Int), l0.length ≤ maxLen → l0.length * 1 ≤ 140737488351232 → (∀ x ∈ l0, (Lit.int .u8 x).wf = true) → l1.length ≤ maxLen → l1.length * 1 ≤ 140737488351232 → (∀ x ∈ l1, (Lit.int .u8 x).wf = true) → ∃ k, laws_FnSumsOfPrimes.f k l0 l1 = some true
theorem laws_FnSumsOfPrimes.walk (P : laws_FnSumsOfPrimes.Pure) (a0 : Option Addr) (len0 cap0 : Nat) (z0 : List Int) (a1 : Option Addr) (len1 cap1 : Nat) (z1 : List Int) (w : World) (w0 : (a0 = none ∧ len0 = 0 ∧ cap0 = 0 ∧ z0 = []) ∨ ∃ x, a0 = some x ∧ len0 ≤ cap0 ∧ cap0 ≤ maxLen ∧ z0.length = cap0 ∧ (∀ i, i < z0.length → w.cell? (x.add i) = some (.int .u8 (z0.getD i 0))) ∧ ∀ n ∈ z0, (Lit.int .u8 n).wf = true) (y0 : len0 * 1 ≤ 140737488351232) (w1 : (a1 = none ∧ len1 = 0 ∧ cap1 = 0 ∧ z1 = []) ∨ ∃ x, a1 = some x ∧ len1 ≤ cap1 ∧ cap1 ≤ maxLen ∧ z1.length = cap1 ∧ (∀ i, i < z1.length → w.cell? (x.add i) = some (.int .u8 (z1.getD i 0))) ∧ ∀ n ∈ z1, (Lit.int .u8 n).wf = true) (y1 : len1 * 1 ≤ 140737488351232) :
    Calls Try.prog 4 #[.slice a0 len0 cap0, .slice a1 len1 cap1] w fun e w' => e = .returned (.bool true) ∧ Below w.heap.size w w' := by
  obtain ⟨l0, rfl, hr0, hm0, hw0, hc0⟩ := ReadsInt.ofRowC w0
  obtain ⟨l1, rfl, hr1, hm1, hw1, hc1⟩ := ReadsInt.ofRowC w1
  obtain ⟨k, h⟩ := P l0 l1 hm0 y0 hw0 hm1 y1 hw1
  refine (laws_FnSumsOfPrimes.calls k _ _ l0 _ _ l1 true w (Kd.C_of_reads (d := (0 : Int)) (h1 := fun _ => rfl) hr0) hc0 (Kd.C_of_reads (d := (0 : Int)) (h1 := fun _ => rfl) hr1) hc1 h).mono ?_
  rintro e w' ⟨rfl, hd⟩
  exact ⟨rfl, hd⟩

end Go.Proofs.Ytjonkpeoiecchaa.P
