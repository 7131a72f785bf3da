-- Printed for this claim by a program of this session, out of the translation. Lean checks it.
import Derived.Test.YtjonkpeoiecchaaPx0
import Derived.Test.YtjonkpeoiecchaaPx3
import Derived.Test.YtjonkpeoiecchaaPx5
import Derived.Test.YtjonkpeoiecchaaPx6
import Derived.Test.YtjonkpeoiecchaaPx7
import Derived.Test.YtjonkpeoiecchaaPx8
import Derived.Test.YtjonkpeoiecchaaPx9
import Derived.Test.YtjonkpeoiecchaaPx11
import Derived.Test.YtjonkpeoiecchaaPx14
import Derived.Test.YtjonkpeoiecchaaPx15
import Derived.Test.YtjonkpeoiecchaaPx16
namespace Go.Proofs.Ytjonkpeoiecchaa.P
open Go.RowKit Go.Proofs.YtjonkpeoiecchaaW.PrintWords Go.Proofs.YtjonkpeoiecchaaW.PrintLast Go.Proofs.YtjonkpeoiecchaaW.PrintMore
attribute [local go_sem] max2_int min2_int max_two min_two max_three min_three max_four min_four   -- for this text's walks alone
set_option linter.unusedVariables false
set_option linter.unusedSimpArgs false

/-! ### laws_FnSumsOfPrimesOfAll: function 3 -/
mutual
def laws_FnSumsOfPrimesOfAll.j0 : Nat → Int → Int → Int → Int → Int → Int → Bool → Int → Bool → Option (Bool)
  | 0, _, _, _, _, _, _, _, _, _ => none
  | k + 1, x0, x1, x2, x3, x9, x10, x11, x15, x113 => if x113 = true then (some false) else (if x11 = true then ((impl_IsPrime.f k x9).bind fun bt203 => ((impl_IsPrime.f k x10).bind fun bt205 => (if (wrap64 (x9 + x10)) = x0 then (if x9 > x10 then (some false) else (if bt203.2 = true then (if bt203.1 = true then (if bt205.2 = true then (if bt205.1 = true then (if (Int.tmod x0 2) = 1 then (if x9 = 2 then (if x15 = 1 then (laws_FnSumsOfPrimesOfAll.j1 k x1 x2 x3) else (some false)) else (some false)) else (laws_FnSumsOfPrimesOfAll.j1 k x1 x2 x3)) else (some false)) else (some false)) else (some false)) else (some false))) else (some false)))) else (laws_FnSumsOfPrimesOfAll.j1 k x1 x2 x3))
def laws_FnSumsOfPrimesOfAll.j1 : Nat → Int → Int → Int → Option (Bool)
  | 0, _, _, _ => none
  | k + 1, x1, x2, x3 => (impl_TwinsUpTo.f k x1).bind fun bt207 => ((spec_TwinsUpTo.f k x1).bind fun bt211 => ((impl_CrossersUpTo.f k x1).bind fun bt215 => ((spec_CrossersUpTo.f k x1).bind fun bt219 => ((impl_SmoothUpTo.f k x2 x3).bind fun bt223 => ((spec_SmoothUpTo.f k x2 x3).bind fun bt227 => (if (bt207.2 != bt211.2) = true then (laws_FnSumsOfPrimesOfAll.j2 k x1 x2 x3 bt207.1 bt215.1 bt223.1 bt223.2 true) else ((laws_gSame.f k bt207.1 bt211.1).bind fun t231 => (if t231 = true then (if (bt215.2 != bt219.2) = true then (laws_FnSumsOfPrimesOfAll.j2 k x1 x2 x3 bt207.1 bt215.1 bt223.1 bt223.2 true) else ((laws_gSame.f k bt215.1 bt219.1).bind fun t232 => (if t232 = true then (if (bt223.2 != bt227.2) = true then (laws_FnSumsOfPrimesOfAll.j2 k x1 x2 x3 bt207.1 bt215.1 bt223.1 bt223.2 true) else ((laws_gSame.f k bt223.1 bt227.1).bind fun t233 => (if t233 = true then (laws_FnSumsOfPrimesOfAll.j2 k x1 x2 x3 bt207.1 bt215.1 bt223.1 bt223.2 (bt207.2 != bt215.2)) else (laws_FnSumsOfPrimesOfAll.j2 k x1 x2 x3 bt207.1 bt215.1 bt223.1 bt223.2 true)))) else (laws_FnSumsOfPrimesOfAll.j2 k x1 x2 x3 bt207.1 bt215.1 bt223.1 bt223.2 true)))) else (laws_FnSumsOfPrimesOfAll.j2 k x1 x2 x3 bt207.1 bt215.1 bt223.1 bt223.2 true)))))))))
def laws_FnSumsOfPrimesOfAll.j2 : Nat → Int → Int → Int → List Int → List Int → List Int → Bool → Bool → Option (Bool)
  | 0, _, _, _, _, _, _, _, _ => none
  | k + 1, x1, x2, x3, x23, x27, x31, x32, x231 => if x231 = true then (some false) else (laws_FnSumsOfPrimesOfAll.l0 k x1 x2 x3 x23 x27 x31 x32 x23 (x23.length : Int) 0)
def laws_FnSumsOfPrimesOfAll.l0 : Nat → Int → Int → Int → List Int → List Int → List Int → Bool → List Int → Int → Int → Option (Bool)
  | 0, _, _, _, _, _, _, _, _, _, _ => none
  | k + 1, x1, x2, x3, x23, x27, x31, x32, x232, x233, x234 => if x234 < x233 then (if 0 ≤ x234 then (if x234 < (x232.length : Int) then ((impl_IsPrime.f k (rd x232 x234)).bind fun bt235 => ((impl_IsPrime.f k (wrap64 ((rd x232 x234) + 2))).bind fun bt237 => (if bt235.2 = true then (if bt235.1 = true then (if bt237.2 = true then (if bt237.1 = true then (if (rd x232 x234) > x1 then (some false) else (if x234 > 0 then (if 0 ≤ (wrap64 (x234 - 1)) then (if (wrap64 (x234 - 1)) < (x23.length : Int) then (if (rd x23 (wrap64 (x234 - 1))) ≥ (rd x232 x234) then (some false) else (if (rd x232 x234) > 3 then (if (Int.tmod (rd x232 x234) 6) = 5 then (laws_FnSumsOfPrimesOfAll.l0 k x1 x2 x3 x23 x27 x31 x32 x232 x233 (wrap64 (x234 + 1))) else (some false)) else (laws_FnSumsOfPrimesOfAll.l0 k x1 x2 x3 x23 x27 x31 x32 x232 x233 (wrap64 (x234 + 1))))) else (none)) else (none)) else (if (rd x232 x234) > 3 then (if (Int.tmod (rd x232 x234) 6) = 5 then (laws_FnSumsOfPrimesOfAll.l0 k x1 x2 x3 x23 x27 x31 x32 x232 x233 (wrap64 (x234 + 1))) else (some false)) else (laws_FnSumsOfPrimesOfAll.l0 k x1 x2 x3 x23 x27 x31 x32 x232 x233 (wrap64 (x234 + 1)))))) else (some false)) else (some false)) else (some false)) else (some false)))) else (none)) else (none)) else (laws_FnSumsOfPrimesOfAll.l1 k x1 x2 x3 x31 x32 x27 (x27.length : Int) 0)
def laws_FnSumsOfPrimesOfAll.l1 : Nat → Int → Int → Int → List Int → Bool → List Int → Int → Int → Option (Bool)
  | 0, _, _, _, _, _, _, _, _ => none
  | k + 1, x1, x2, x3, x31, x32, x292, x293, x294 => if x294 < x293 then (if 0 ≤ x294 then (if x294 < (x292.length : Int) then ((impl_IsPrime.f k (rd x292 x294)).bind fun bt241 => (if bt241.2 = true then (if bt241.1 = true then (if (wrap64 ((rd x292 x294) * (rd x292 x294))) > x1 then (some false) else (laws_FnSumsOfPrimesOfAll.l1 k x1 x2 x3 x31 x32 x292 x293 (wrap64 (x294 + 1)))) else (some false)) else (some false))) else (none)) else (none)) else (laws_FnSumsOfPrimesOfAll.l2 k x2 x3 x31 x32 1)
def laws_FnSumsOfPrimesOfAll.l2 : Nat → Int → Int → List Int → Bool → Int → Option (Bool)
  | 0, _, _, _, _, _ => none
  | k + 1, x2, x3, x31, x32, x45 => if x32 = true then (laws_FnSumsOfPrimesOfAll.j6 k x2 x3 x31 x32 x45 (decide (x45 ≤ x2))) else (laws_FnSumsOfPrimesOfAll.j6 k x2 x3 x31 x32 x45 false)
def laws_FnSumsOfPrimesOfAll.j6 : Nat → Int → Int → List Int → Bool → Int → Bool → Option (Bool)
  | 0, _, _, _, _, _, _ => none
  | k + 1, x2, x3, x31, x32, x45, x322 => if x322 = true then ((impl_IsSmooth.f k x45 x3).bind fun bt243 => (if bt243.2 = true then ((laws_gHas.f k x31 x45).bind fun t245 => (if (bt243.1 != t245) = true then (some false) else (laws_FnSumsOfPrimesOfAll.l2 k x2 x3 x31 x32 (wrap64 (x45 + 1))))) else (some false))) else (some true)
end
def laws_FnSumsOfPrimesOfAll.f (k : Nat) (a0 : Int) (a1 : Int) (a2 : Int) (a3 : Int) : Option (Bool) := (impl_FirstTwoPrimes.f k a0).bind fun bt193 => ((spec_FirstTwoPrimes.f k a0).bind fun bt196 => ((impl_CountTwoPrimes.f k a0).bind fun bt199 => ((spec_CountTwoPrimes.f k a0).bind fun bt201 => (if (bt193.2.2 != bt196.2.2) = true then (laws_FnSumsOfPrimesOfAll.j0 k a0 a1 a2 a3 bt193.1 bt193.2.1 bt193.2.2 bt199.1 true) else (if bt193.1 = bt196.1 then (if bt193.2.1 = bt196.2.1 then (if (bt199.2 != bt201.2) = true then (laws_FnSumsOfPrimesOfAll.j0 k a0 a1 a2 a3 bt193.1 bt193.2.1 bt193.2.2 bt199.1 true) else (if bt199.1 = bt201.1 then (if bt199.2 = true then (if (bt193.2.2 != (decide (bt199.1 > 0))) = true then (laws_FnSumsOfPrimesOfAll.j0 k a0 a1 a2 a3 bt193.1 bt193.2.1 bt193.2.2 bt199.1 true) else (if (Int.tmod a0 2) = 0 then (laws_FnSumsOfPrimesOfAll.j0 k a0 a1 a2 a3 bt193.1 bt193.2.1 bt193.2.2 bt199.1 (bt199.1 == 0)) else (laws_FnSumsOfPrimesOfAll.j0 k a0 a1 a2 a3 bt193.1 bt193.2.1 bt193.2.2 bt199.1 false))) else (if (bt193.2.2 != false) = true then (laws_FnSumsOfPrimesOfAll.j0 k a0 a1 a2 a3 bt193.1 bt193.2.1 bt193.2.2 bt199.1 true) else (laws_FnSumsOfPrimesOfAll.j0 k a0 a1 a2 a3 bt193.1 bt193.2.1 bt193.2.2 bt199.1 false))) else (laws_FnSumsOfPrimesOfAll.j0 k a0 a1 a2 a3 bt193.1 bt193.2.1 bt193.2.2 bt199.1 true))) else (laws_FnSumsOfPrimesOfAll.j0 k a0 a1 a2 a3 bt193.1 bt193.2.1 bt193.2.2 bt199.1 true)) else (laws_FnSumsOfPrimesOfAll.j0 k a0 a1 a2 a3 bt193.1 bt193.2.1 bt193.2.2 bt199.1 true))))))
theorem laws_FnSumsOfPrimesOfAll.mono_l : ∀ k, (∀ y0 y1 y2 y3 y4 y5 y6 y7 y8, LeO (laws_FnSumsOfPrimesOfAll.j0 k y0 y1 y2 y3 y4 y5 y6 y7 y8) (laws_FnSumsOfPrimesOfAll.j0 (k + 1) y0 y1 y2 y3 y4 y5 y6 y7 y8)) ∧ (∀ y0 y1 y2, LeO (laws_FnSumsOfPrimesOfAll.j1 k y0 y1 y2) (laws_FnSumsOfPrimesOfAll.j1 (k + 1) y0 y1 y2)) ∧ (∀ y0 y1 y2 y3 y4 y5 y6 y7, LeO (laws_FnSumsOfPrimesOfAll.j2 k y0 y1 y2 y3 y4 y5 y6 y7) (laws_FnSumsOfPrimesOfAll.j2 (k + 1) y0 y1 y2 y3 y4 y5 y6 y7)) ∧ (∀ y0 y1 y2 y3 y4 y5 y6 y7 y8 y9, LeO (laws_FnSumsOfPrimesOfAll.l0 k y0 y1 y2 y3 y4 y5 y6 y7 y8 y9) (laws_FnSumsOfPrimesOfAll.l0 (k + 1) y0 y1 y2 y3 y4 y5 y6 y7 y8 y9)) ∧ (∀ y0 y1 y2 y3 y4 y5 y6 y7, LeO (laws_FnSumsOfPrimesOfAll.l1 k y0 y1 y2 y3 y4 y5 y6 y7) (laws_FnSumsOfPrimesOfAll.l1 (k + 1) y0 y1 y2 y3 y4 y5 y6 y7)) ∧ (∀ y0 y1 y2 y3 y4, LeO (laws_FnSumsOfPrimesOfAll.l2 k y0 y1 y2 y3 y4) (laws_FnSumsOfPrimesOfAll.l2 (k + 1) y0 y1 y2 y3 y4)) ∧ (∀ y0 y1 y2 y3 y4 y5, LeO (laws_FnSumsOfPrimesOfAll.j6 k y0 y1 y2 y3 y4 y5) (laws_FnSumsOfPrimesOfAll.j6 (k + 1) y0 y1 y2 y3 y4 y5))
  | 0 => ⟨fun _ _ _ _ _ _ _ _ _ r h => by simp [laws_FnSumsOfPrimesOfAll.j0] at h, fun _ _ _ r h => by simp [laws_FnSumsOfPrimesOfAll.j1] at h, fun _ _ _ _ _ _ _ _ r h => by simp [laws_FnSumsOfPrimesOfAll.j2] at h, fun _ _ _ _ _ _ _ _ _ _ r h => by simp [laws_FnSumsOfPrimesOfAll.l0] at h, fun _ _ _ _ _ _ _ _ r h => by simp [laws_FnSumsOfPrimesOfAll.l1] at h, fun _ _ _ _ _ r h => by simp [laws_FnSumsOfPrimesOfAll.l2] at h, fun _ _ _ _ _ _ r h => by simp [laws_FnSumsOfPrimesOfAll.j6] at h⟩
  | k + 1 => by
    obtain ⟨ih0, ih1, ih2, ih3, ih4, ih5, ih6⟩ := laws_FnSumsOfPrimesOfAll.mono_l k
    refine ⟨?_, ?_, ?_, ?_, ?_, ?_, ?_⟩
    · intro y0 y1 y2 y3 y4 y5 y6 y7 y8
      unfold laws_FnSumsOfPrimesOfAll.j0
      repeat' first
      | (with_reducible exact ih0 _ _ _ _ _ _ _ _ _)
      | (with_reducible exact ih1 _ _ _)
      | (with_reducible exact ih2 _ _ _ _ _ _ _ _)
      | (with_reducible exact ih3 _ _ _ _ _ _ _ _ _ _)
      | (with_reducible exact ih4 _ _ _ _ _ _ _ _)
      | (with_reducible exact ih5 _ _ _ _ _)
      | (with_reducible exact ih6 _ _ _ _ _ _)
      | (with_reducible exact impl_CountTwoPrimes.mono _ _)
      | (with_reducible exact impl_CrossersUpTo.mono _ _)
      | (with_reducible exact impl_FirstTwoPrimes.mono _ _)
      | (with_reducible exact impl_IsPrime.mono _ _)
      | (with_reducible exact impl_IsSmooth.mono _ _ _)
      | (with_reducible exact impl_SmoothUpTo.mono _ _ _)
      | (with_reducible exact impl_TwinsUpTo.mono _ _)
      | (with_reducible exact laws_gHas.mono _ _ _)
      | (with_reducible exact laws_gSame.mono _ _ _)
      | (with_reducible exact spec_CountTwoPrimes.mono _ _)
      | (with_reducible exact spec_CrossersUpTo.mono _ _)
      | (with_reducible exact spec_FirstTwoPrimes.mono _ _)
      | (with_reducible exact spec_SmoothUpTo.mono _ _ _)
      | (with_reducible exact spec_TwinsUpTo.mono _ _)
      | (with_reducible exact LeO.refl _)
      | (with_reducible exact LeO.none _)
      | (with_reducible refine LeO.ite ?_ ?_)
      | (with_reducible refine LeO.bind ?_ (fun _ => ?_))
      | exact ih0 _ _ _ _ _ _ _ _ _
      | exact ih1 _ _ _
      | exact ih2 _ _ _ _ _ _ _ _
      | exact ih3 _ _ _ _ _ _ _ _ _ _
      | exact ih4 _ _ _ _ _ _ _ _
      | exact ih5 _ _ _ _ _
      | exact ih6 _ _ _ _ _ _
      | exact impl_CountTwoPrimes.mono _ _
      | exact impl_CrossersUpTo.mono _ _
      | exact impl_FirstTwoPrimes.mono _ _
      | exact impl_IsPrime.mono _ _
      | exact impl_IsSmooth.mono _ _ _
      | exact impl_SmoothUpTo.mono _ _ _
      | exact impl_TwinsUpTo.mono _ _
      | exact laws_gHas.mono _ _ _
      | exact laws_gSame.mono _ _ _
      | exact spec_CountTwoPrimes.mono _ _
      | exact spec_CrossersUpTo.mono _ _
      | exact spec_FirstTwoPrimes.mono _ _
      | exact spec_SmoothUpTo.mono _ _ _
      | exact spec_TwinsUpTo.mono _ _
      | exact LeO.none _
      | refine LeO.ite ?_ ?_
      | refine LeO.bind ?_ (fun _ => ?_)
    · intro y0 y1 y2
      unfold laws_FnSumsOfPrimesOfAll.j1
      repeat' first
      | (with_reducible exact ih0 _ _ _ _ _ _ _ _ _)
      | (with_reducible exact ih1 _ _ _)
      | (with_reducible exact ih2 _ _ _ _ _ _ _ _)
      | (with_reducible exact ih3 _ _ _ _ _ _ _ _ _ _)
      | (with_reducible exact ih4 _ _ _ _ _ _ _ _)
      | (with_reducible exact ih5 _ _ _ _ _)
      | (with_reducible exact ih6 _ _ _ _ _ _)
      | (with_reducible exact impl_CountTwoPrimes.mono _ _)
      | (with_reducible exact impl_CrossersUpTo.mono _ _)
      | (with_reducible exact impl_FirstTwoPrimes.mono _ _)
      | (with_reducible exact impl_IsPrime.mono _ _)
      | (with_reducible exact impl_IsSmooth.mono _ _ _)
      | (with_reducible exact impl_SmoothUpTo.mono _ _ _)
      | (with_reducible exact impl_TwinsUpTo.mono _ _)
      | (with_reducible exact laws_gHas.mono _ _ _)
      | (with_reducible exact laws_gSame.mono _ _ _)
      | (with_reducible exact spec_CountTwoPrimes.mono _ _)
      | (with_reducible exact spec_CrossersUpTo.mono _ _)
      | (with_reducible exact spec_FirstTwoPrimes.mono _ _)
      | (with_reducible exact spec_SmoothUpTo.mono _ _ _)
      | (with_reducible exact spec_TwinsUpTo.mono _ _)
      | (with_reducible exact LeO.refl _)
      | (with_reducible exact LeO.none _)
      | (with_reducible refine LeO.ite ?_ ?_)
      | (with_reducible refine LeO.bind ?_ (fun _ => ?_))
      | exact ih0 _ _ _ _ _ _ _ _ _
      | exact ih1 _ _ _
      | exact ih2 _ _ _ _ _ _ _ _
      | exact ih3 _ _ _ _ _ _ _ _ _ _
      | exact ih4 _ _ _ _ _ _ _ _
      | exact ih5 _ _ _ _ _
      | exact ih6 _ _ _ _ _ _
      | exact impl_CountTwoPrimes.mono _ _
      | exact impl_CrossersUpTo.mono _ _
      | exact impl_FirstTwoPrimes.mono _ _
      | exact impl_IsPrime.mono _ _
      | exact impl_IsSmooth.mono _ _ _
      | exact impl_SmoothUpTo.mono _ _ _
      | exact impl_TwinsUpTo.mono _ _
      | exact laws_gHas.mono _ _ _
      | exact laws_gSame.mono _ _ _
      | exact spec_CountTwoPrimes.mono _ _
      | exact spec_CrossersUpTo.mono _ _
      | exact spec_FirstTwoPrimes.mono _ _
      | exact spec_SmoothUpTo.mono _ _ _
      | exact spec_TwinsUpTo.mono _ _
      | exact LeO.none _
      | refine LeO.ite ?_ ?_
      | refine LeO.bind ?_ (fun _ => ?_)
    · intro y0 y1 y2 y3 y4 y5 y6 y7
      unfold laws_FnSumsOfPrimesOfAll.j2
      repeat' first
      | (with_reducible exact ih0 _ _ _ _ _ _ _ _ _)
      | (with_reducible exact ih1 _ _ _)
      | (with_reducible exact ih2 _ _ _ _ _ _ _ _)
      | (with_reducible exact ih3 _ _ _ _ _ _ _ _ _ _)
      | (with_reducible exact ih4 _ _ _ _ _ _ _ _)
      | (with_reducible exact ih5 _ _ _ _ _)
      | (with_reducible exact ih6 _ _ _ _ _ _)
      | (with_reducible exact impl_CountTwoPrimes.mono _ _)
      | (with_reducible exact impl_CrossersUpTo.mono _ _)
      | (with_reducible exact impl_FirstTwoPrimes.mono _ _)
      | (with_reducible exact impl_IsPrime.mono _ _)
      | (with_reducible exact impl_IsSmooth.mono _ _ _)
      | (with_reducible exact impl_SmoothUpTo.mono _ _ _)
      | (with_reducible exact impl_TwinsUpTo.mono _ _)
      | (with_reducible exact laws_gHas.mono _ _ _)
      | (with_reducible exact laws_gSame.mono _ _ _)
      | (with_reducible exact spec_CountTwoPrimes.mono _ _)
      | (with_reducible exact spec_CrossersUpTo.mono _ _)
      | (with_reducible exact spec_FirstTwoPrimes.mono _ _)
      | (with_reducible exact spec_SmoothUpTo.mono _ _ _)
      | (with_reducible exact spec_TwinsUpTo.mono _ _)
      | (with_reducible exact LeO.refl _)
      | (with_reducible exact LeO.none _)
      | (with_reducible refine LeO.ite ?_ ?_)
      | (with_reducible refine LeO.bind ?_ (fun _ => ?_))
      | exact ih0 _ _ _ _ _ _ _ _ _
      | exact ih1 _ _ _
      | exact ih2 _ _ _ _ _ _ _ _
      | exact ih3 _ _ _ _ _ _ _ _ _ _
      | exact ih4 _ _ _ _ _ _ _ _
      | exact ih5 _ _ _ _ _
      | exact ih6 _ _ _ _ _ _
      | exact impl_CountTwoPrimes.mono _ _
      | exact impl_CrossersUpTo.mono _ _
      | exact impl_FirstTwoPrimes.mono _ _
      | exact impl_IsPrime.mono _ _
      | exact impl_IsSmooth.mono _ _ _
      | exact impl_SmoothUpTo.mono _ _ _
      | exact impl_TwinsUpTo.mono _ _
      | exact laws_gHas.mono _ _ _
      | exact laws_gSame.mono _ _ _
      | exact spec_CountTwoPrimes.mono _ _
      | exact spec_CrossersUpTo.mono _ _
      | exact spec_FirstTwoPrimes.mono _ _
      | exact spec_SmoothUpTo.mono _ _ _
      | exact spec_TwinsUpTo.mono _ _
      | exact LeO.none _
      | refine LeO.ite ?_ ?_
      | refine LeO.bind ?_ (fun _ => ?_)
    · intro y0 y1 y2 y3 y4 y5 y6 y7 y8 y9
      unfold laws_FnSumsOfPrimesOfAll.l0
      repeat' first
      | (with_reducible exact ih0 _ _ _ _ _ _ _ _ _)
      | (with_reducible exact ih1 _ _ _)
      | (with_reducible exact ih2 _ _ _ _ _ _ _ _)
      | (with_reducible exact ih3 _ _ _ _ _ _ _ _ _ _)
      | (with_reducible exact ih4 _ _ _ _ _ _ _ _)
      | (with_reducible exact ih5 _ _ _ _ _)
      | (with_reducible exact ih6 _ _ _ _ _ _)
      | (with_reducible exact impl_CountTwoPrimes.mono _ _)
      | (with_reducible exact impl_CrossersUpTo.mono _ _)
      | (with_reducible exact impl_FirstTwoPrimes.mono _ _)
      | (with_reducible exact impl_IsPrime.mono _ _)
      | (with_reducible exact impl_IsSmooth.mono _ _ _)
      | (with_reducible exact impl_SmoothUpTo.mono _ _ _)
      | (with_reducible exact impl_TwinsUpTo.mono _ _)
      | (with_reducible exact laws_gHas.mono _ _ _)
      | (with_reducible exact laws_gSame.mono _ _ _)
      | (with_reducible exact spec_CountTwoPrimes.mono _ _)
      | (with_reducible exact spec_CrossersUpTo.mono _ _)
      | (with_reducible exact spec_FirstTwoPrimes.mono _ _)
      | (with_reducible exact spec_SmoothUpTo.mono _ _ _)
      | (with_reducible exact spec_TwinsUpTo.mono _ _)
      | (with_reducible exact LeO.refl _)
      | (with_reducible exact LeO.none _)
      | (with_reducible refine LeO.ite ?_ ?_)
      | (with_reducible refine LeO.bind ?_ (fun _ => ?_))
      | exact ih0 _ _ _ _ _ _ _ _ _
      | exact ih1 _ _ _
      | exact ih2 _ _ _ _ _ _ _ _
      | exact ih3 _ _ _ _ _ _ _ _ _ _
      | exact ih4 _ _ _ _ _ _ _ _
      | exact ih5 _ _ _ _ _
      | exact ih6 _ _ _ _ _ _
      | exact impl_CountTwoPrimes.mono _ _
      | exact impl_CrossersUpTo.mono _ _
      | exact impl_FirstTwoPrimes.mono _ _
      | exact impl_IsPrime.mono _ _
      | exact impl_IsSmooth.mono _ _ _
      | exact impl_SmoothUpTo.mono _ _ _
      | exact impl_TwinsUpTo.mono _ _
      | exact laws_gHas.mono _ _ _
      | exact laws_gSame.mono _ _ _
      | exact spec_CountTwoPrimes.mono _ _
      | exact spec_CrossersUpTo.mono _ _
      | exact spec_FirstTwoPrimes.mono _ _
      | exact spec_SmoothUpTo.mono _ _ _
      | exact spec_TwinsUpTo.mono _ _
      | exact LeO.none _
      | refine LeO.ite ?_ ?_
      | refine LeO.bind ?_ (fun _ => ?_)
    · intro y0 y1 y2 y3 y4 y5 y6 y7
      unfold laws_FnSumsOfPrimesOfAll.l1
      repeat' first
      | (with_reducible exact ih0 _ _ _ _ _ _ _ _ _)
      | (with_reducible exact ih1 _ _ _)
      | (with_reducible exact ih2 _ _ _ _ _ _ _ _)
      | (with_reducible exact ih3 _ _ _ _ _ _ _ _ _ _)
      | (with_reducible exact ih4 _ _ _ _ _ _ _ _)
      | (with_reducible exact ih5 _ _ _ _ _)
      | (with_reducible exact ih6 _ _ _ _ _ _)
      | (with_reducible exact impl_CountTwoPrimes.mono _ _)
      | (with_reducible exact impl_CrossersUpTo.mono _ _)
      | (with_reducible exact impl_FirstTwoPrimes.mono _ _)
      | (with_reducible exact impl_IsPrime.mono _ _)
      | (with_reducible exact impl_IsSmooth.mono _ _ _)
      | (with_reducible exact impl_SmoothUpTo.mono _ _ _)
      | (with_reducible exact impl_TwinsUpTo.mono _ _)
      | (with_reducible exact laws_gHas.mono _ _ _)
      | (with_reducible exact laws_gSame.mono _ _ _)
      | (with_reducible exact spec_CountTwoPrimes.mono _ _)
      | (with_reducible exact spec_CrossersUpTo.mono _ _)
      | (with_reducible exact spec_FirstTwoPrimes.mono _ _)
      | (with_reducible exact spec_SmoothUpTo.mono _ _ _)
      | (with_reducible exact spec_TwinsUpTo.mono _ _)
      | (with_reducible exact LeO.refl _)
      | (with_reducible exact LeO.none _)
      | (with_reducible refine LeO.ite ?_ ?_)
      | (with_reducible refine LeO.bind ?_ (fun _ => ?_))
      | exact ih0 _ _ _ _ _ _ _ _ _
      | exact ih1 _ _ _
      | exact ih2 _ _ _ _ _ _ _ _
      | exact ih3 _ _ _ _ _ _ _ _ _ _
      | exact ih4 _ _ _ _ _ _ _ _
      | exact ih5 _ _ _ _ _
      | exact ih6 _ _ _ _ _ _
      | exact impl_CountTwoPrimes.mono _ _
      | exact impl_CrossersUpTo.mono _ _
      | exact impl_FirstTwoPrimes.mono _ _
      | exact impl_IsPrime.mono _ _
      | exact impl_IsSmooth.mono _ _ _
      | exact impl_SmoothUpTo.mono _ _ _
      | exact impl_TwinsUpTo.mono _ _
      | exact laws_gHas.mono _ _ _
      | exact laws_gSame.mono _ _ _
      | exact spec_CountTwoPrimes.mono _ _
      | exact spec_CrossersUpTo.mono _ _
      | exact spec_FirstTwoPrimes.mono _ _
      | exact spec_SmoothUpTo.mono _ _ _
      | exact spec_TwinsUpTo.mono _ _
      | exact LeO.none _
      | refine LeO.ite ?_ ?_
      | refine LeO.bind ?_ (fun _ => ?_)
    · intro y0 y1 y2 y3 y4
      unfold laws_FnSumsOfPrimesOfAll.l2
      repeat' first
      | (with_reducible exact ih0 _ _ _ _ _ _ _ _ _)
      | (with_reducible exact ih1 _ _ _)
      | (with_reducible exact ih2 _ _ _ _ _ _ _ _)
      | (with_reducible exact ih3 _ _ _ _ _ _ _ _ _ _)
      | (with_reducible exact ih4 _ _ _ _ _ _ _ _)
      | (with_reducible exact ih5 _ _ _ _ _)
      | (with_reducible exact ih6 _ _ _ _ _ _)
      | (with_reducible exact impl_CountTwoPrimes.mono _ _)
      | (with_reducible exact impl_CrossersUpTo.mono _ _)
      | (with_reducible exact impl_FirstTwoPrimes.mono _ _)
      | (with_reducible exact impl_IsPrime.mono _ _)
      | (with_reducible exact impl_IsSmooth.mono _ _ _)
      | (with_reducible exact impl_SmoothUpTo.mono _ _ _)
      | (with_reducible exact impl_TwinsUpTo.mono _ _)
      | (with_reducible exact laws_gHas.mono _ _ _)
      | (with_reducible exact laws_gSame.mono _ _ _)
      | (with_reducible exact spec_CountTwoPrimes.mono _ _)
      | (with_reducible exact spec_CrossersUpTo.mono _ _)
      | (with_reducible exact spec_FirstTwoPrimes.mono _ _)
      | (with_reducible exact spec_SmoothUpTo.mono _ _ _)
      | (with_reducible exact spec_TwinsUpTo.mono _ _)
      | (with_reducible exact LeO.refl _)
      | (with_reducible exact LeO.none _)
      | (with_reducible refine LeO.ite ?_ ?_)
      | (with_reducible refine LeO.bind ?_ (fun _ => ?_))
      | exact ih0 _ _ _ _ _ _ _ _ _
      | exact ih1 _ _ _
      | exact ih2 _ _ _ _ _ _ _ _
      | exact ih3 _ _ _ _ _ _ _ _ _ _
      | exact ih4 _ _ _ _ _ _ _ _
      | exact ih5 _ _ _ _ _
      | exact ih6 _ _ _ _ _ _
      | exact impl_CountTwoPrimes.mono _ _
      | exact impl_CrossersUpTo.mono _ _
      | exact impl_FirstTwoPrimes.mono _ _
      | exact impl_IsPrime.mono _ _
      | exact impl_IsSmooth.mono _ _ _
      | exact impl_SmoothUpTo.mono _ _ _
      | exact impl_TwinsUpTo.mono _ _
      | exact laws_gHas.mono _ _ _
      | exact laws_gSame.mono _ _ _
      | exact spec_CountTwoPrimes.mono _ _
      | exact spec_CrossersUpTo.mono _ _
      | exact spec_FirstTwoPrimes.mono _ _
      | exact spec_SmoothUpTo.mono _ _ _
      | exact spec_TwinsUpTo.mono _ _
      | exact LeO.none _
      | refine LeO.ite ?_ ?_
      | refine LeO.bind ?_ (fun _ => ?_)
    · intro y0 y1 y2 y3 y4 y5
      unfold laws_FnSumsOfPrimesOfAll.j6
      repeat' first
      | (with_reducible exact ih0 _ _ _ _ _ _ _ _ _)
      | (with_reducible exact ih1 _ _ _)
      | (with_reducible exact ih2 _ _ _ _ _ _ _ _)
      | (with_reducible exact ih3 _ _ _ _ _ _ _ _ _ _)
      | (with_reducible exact ih4 _ _ _ _ _ _ _ _)
      | (with_reducible exact ih5 _ _ _ _ _)
      | (with_reducible exact ih6 _ _ _ _ _ _)
      | (with_reducible exact impl_CountTwoPrimes.mono _ _)
      | (with_reducible exact impl_CrossersUpTo.mono _ _)
      | (with_reducible exact impl_FirstTwoPrimes.mono _ _)
      | (with_reducible exact impl_IsPrime.mono _ _)
      | (with_reducible exact impl_IsSmooth.mono _ _ _)
      | (with_reducible exact impl_SmoothUpTo.mono _ _ _)
      | (with_reducible exact impl_TwinsUpTo.mono _ _)
      | (with_reducible exact laws_gHas.mono _ _ _)
      | (with_reducible exact laws_gSame.mono _ _ _)
      | (with_reducible exact spec_CountTwoPrimes.mono _ _)
      | (with_reducible exact spec_CrossersUpTo.mono _ _)
      | (with_reducible exact spec_FirstTwoPrimes.mono _ _)
      | (with_reducible exact spec_SmoothUpTo.mono _ _ _)
      | (with_reducible exact spec_TwinsUpTo.mono _ _)
      | (with_reducible exact LeO.refl _)
      | (with_reducible exact LeO.none _)
      | (with_reducible refine LeO.ite ?_ ?_)
      | (with_reducible refine LeO.bind ?_ (fun _ => ?_))
      | exact ih0 _ _ _ _ _ _ _ _ _
      | exact ih1 _ _ _
      | exact ih2 _ _ _ _ _ _ _ _
      | exact ih3 _ _ _ _ _ _ _ _ _ _
      | exact ih4 _ _ _ _ _ _ _ _
      | exact ih5 _ _ _ _ _
      | exact ih6 _ _ _ _ _ _
      | exact impl_CountTwoPrimes.mono _ _
      | exact impl_CrossersUpTo.mono _ _
      | exact impl_FirstTwoPrimes.mono _ _
      | exact impl_IsPrime.mono _ _
      | exact impl_IsSmooth.mono _ _ _
      | exact impl_SmoothUpTo.mono _ _ _
      | exact impl_TwinsUpTo.mono _ _
      | exact laws_gHas.mono _ _ _
      | exact laws_gSame.mono _ _ _
      | exact spec_CountTwoPrimes.mono _ _
      | exact spec_CrossersUpTo.mono _ _
      | exact spec_FirstTwoPrimes.mono _ _
      | exact spec_SmoothUpTo.mono _ _ _
      | exact spec_TwinsUpTo.mono _ _
      | exact LeO.none _
      | refine LeO.ite ?_ ?_
      | refine LeO.bind ?_ (fun _ => ?_)
theorem laws_FnSumsOfPrimesOfAll.mono : ∀ a0 a1 a2 a3 k, LeO (laws_FnSumsOfPrimesOfAll.f k a0 a1 a2 a3) (laws_FnSumsOfPrimesOfAll.f (k + 1) a0 a1 a2 a3) := by
  intro a0 a1 a2 a3 k
  obtain ⟨ih0, ih1, ih2, ih3, ih4, ih5, ih6⟩ := laws_FnSumsOfPrimesOfAll.mono_l k
  unfold laws_FnSumsOfPrimesOfAll.f
  repeat' first
      | (with_reducible exact ih0 _ _ _ _ _ _ _ _ _)
      | (with_reducible exact ih1 _ _ _)
      | (with_reducible exact ih2 _ _ _ _ _ _ _ _)
      | (with_reducible exact ih3 _ _ _ _ _ _ _ _ _ _)
      | (with_reducible exact ih4 _ _ _ _ _ _ _ _)
      | (with_reducible exact ih5 _ _ _ _ _)
      | (with_reducible exact ih6 _ _ _ _ _ _)
      | (with_reducible exact impl_CountTwoPrimes.mono _ _)
      | (with_reducible exact impl_CrossersUpTo.mono _ _)
      | (with_reducible exact impl_FirstTwoPrimes.mono _ _)
      | (with_reducible exact impl_IsPrime.mono _ _)
      | (with_reducible exact impl_IsSmooth.mono _ _ _)
      | (with_reducible exact impl_SmoothUpTo.mono _ _ _)
      | (with_reducible exact impl_TwinsUpTo.mono _ _)
      | (with_reducible exact laws_gHas.mono _ _ _)
      | (with_reducible exact laws_gSame.mono _ _ _)
      | (with_reducible exact spec_CountTwoPrimes.mono _ _)
      | (with_reducible exact spec_CrossersUpTo.mono _ _)
      | (with_reducible exact spec_FirstTwoPrimes.mono _ _)
      | (with_reducible exact spec_SmoothUpTo.mono _ _ _)
      | (with_reducible exact spec_TwinsUpTo.mono _ _)
      | (with_reducible exact LeO.refl _)
      | (with_reducible exact LeO.none _)
      | (with_reducible refine LeO.ite ?_ ?_)
      | (with_reducible refine LeO.bind ?_ (fun _ => ?_))
      | exact ih0 _ _ _ _ _ _ _ _ _
      | exact ih1 _ _ _
      | exact ih2 _ _ _ _ _ _ _ _
      | exact ih3 _ _ _ _ _ _ _ _ _ _
      | exact ih4 _ _ _ _ _ _ _ _
      | exact ih5 _ _ _ _ _
      | exact ih6 _ _ _ _ _ _
      | exact impl_CountTwoPrimes.mono _ _
      | exact impl_CrossersUpTo.mono _ _
      | exact impl_FirstTwoPrimes.mono _ _
      | exact impl_IsPrime.mono _ _
      | exact impl_IsSmooth.mono _ _ _
      | exact impl_SmoothUpTo.mono _ _ _
      | exact impl_TwinsUpTo.mono _ _
      | exact laws_gHas.mono _ _ _
      | exact laws_gSame.mono _ _ _
      | exact spec_CountTwoPrimes.mono _ _
      | exact spec_CrossersUpTo.mono _ _
      | exact spec_FirstTwoPrimes.mono _ _
      | exact spec_SmoothUpTo.mono _ _ _
      | exact spec_TwinsUpTo.mono _ _
      | exact LeO.none _
      | refine LeO.ite ?_ ?_
      | refine LeO.bind ?_ (fun _ => ?_)
set_option maxHeartbeats 8000000 in
set_option maxRecDepth 100000 in
theorem laws_FnSumsOfPrimesOfAll.calls (k : Nat) (a0 : Int) (a1 : Int) (a2 : Int) (a3 : Int) (r : Bool) (w : World) (h : laws_FnSumsOfPrimesOfAll.f k a0 a1 a2 a3 = some r) :
    Calls Try.prog 3 #[.int .i64 a0, .int .i64 a1, .int .i64 a2, .int .i64 a3] w fun e w' => e = .returned (.bool r) ∧ Below w.heap.size w w' := by
  have HB := Aside0.mk (Below.refl w.heap.size w)
  have H : ((impl_FirstTwoPrimes.f k a0).bind fun bt193 => ((spec_FirstTwoPrimes.f k a0).bind fun bt196 => ((impl_CountTwoPrimes.f k a0).bind fun bt199 => ((spec_CountTwoPrimes.f k a0).bind fun bt201 => (if (bt193.2.2 != bt196.2.2) = true then (laws_FnSumsOfPrimesOfAll.j0 k a0 a1 a2 a3 bt193.1 bt193.2.1 bt193.2.2 bt199.1 true) else (if bt193.1 = bt196.1 then (if bt193.2.1 = bt196.2.1 then (if (bt199.2 != bt201.2) = true then (laws_FnSumsOfPrimesOfAll.j0 k a0 a1 a2 a3 bt193.1 bt193.2.1 bt193.2.2 bt199.1 true) else (if bt199.1 = bt201.1 then (if bt199.2 = true then (if (bt193.2.2 != (decide (bt199.1 > 0))) = true then (laws_FnSumsOfPrimesOfAll.j0 k a0 a1 a2 a3 bt193.1 bt193.2.1 bt193.2.2 bt199.1 true) else (if (Int.tmod a0 2) = 0 then (laws_FnSumsOfPrimesOfAll.j0 k a0 a1 a2 a3 bt193.1 bt193.2.1 bt193.2.2 bt199.1 (bt199.1 == 0)) else (laws_FnSumsOfPrimesOfAll.j0 k a0 a1 a2 a3 bt193.1 bt193.2.1 bt193.2.2 bt199.1 false))) else (if (bt193.2.2 != false) = true then (laws_FnSumsOfPrimesOfAll.j0 k a0 a1 a2 a3 bt193.1 bt193.2.1 bt193.2.2 bt199.1 true) else (laws_FnSumsOfPrimesOfAll.j0 k a0 a1 a2 a3 bt193.1 bt193.2.1 bt193.2.2 bt199.1 false))) else (laws_FnSumsOfPrimesOfAll.j0 k a0 a1 a2 a3 bt193.1 bt193.2.1 bt193.2.2 bt199.1 true))) else (laws_FnSumsOfPrimesOfAll.j0 k a0 a1 a2 a3 bt193.1 bt193.2.1 bt193.2.2 bt199.1 true)) else (laws_FnSumsOfPrimesOfAll.j0 k a0 a1 a2 a3 bt193.1 bt193.2.1 bt193.2.2 bt199.1 true))))))) = some r := h
  clear h
  replace H := Option.bind_eq_some_iff.mp H
  obtain ⟨⟨t193, t194, t195⟩, A50, H⟩ := H
  replace H : ((spec_FirstTwoPrimes.f k a0).bind fun bt196 => ((impl_CountTwoPrimes.f k a0).bind fun bt199 => ((spec_CountTwoPrimes.f k a0).bind fun bt201 => (if (t195 != bt196.2.2) = true then (laws_FnSumsOfPrimesOfAll.j0 k a0 a1 a2 a3 t193 t194 t195 bt199.1 true) else (if t193 = bt196.1 then (if t194 = bt196.2.1 then (if (bt199.2 != bt201.2) = true then (laws_FnSumsOfPrimesOfAll.j0 k a0 a1 a2 a3 t193 t194 t195 bt199.1 true) else (if bt199.1 = bt201.1 then (if bt199.2 = true then (if (t195 != (decide (bt199.1 > 0))) = true then (laws_FnSumsOfPrimesOfAll.j0 k a0 a1 a2 a3 t193 t194 t195 bt199.1 true) else (if (Int.tmod a0 2) = 0 then (laws_FnSumsOfPrimesOfAll.j0 k a0 a1 a2 a3 t193 t194 t195 bt199.1 (bt199.1 == 0)) else (laws_FnSumsOfPrimesOfAll.j0 k a0 a1 a2 a3 t193 t194 t195 bt199.1 false))) else (if (t195 != false) = true then (laws_FnSumsOfPrimesOfAll.j0 k a0 a1 a2 a3 t193 t194 t195 bt199.1 true) else (laws_FnSumsOfPrimesOfAll.j0 k a0 a1 a2 a3 t193 t194 t195 bt199.1 false))) else (laws_FnSumsOfPrimesOfAll.j0 k a0 a1 a2 a3 t193 t194 t195 bt199.1 true))) else (laws_FnSumsOfPrimesOfAll.j0 k a0 a1 a2 a3 t193 t194 t195 bt199.1 true)) else (laws_FnSumsOfPrimesOfAll.j0 k a0 a1 a2 a3 t193 t194 t195 bt199.1 true)))))) = some r := H
  have A5 := Aside0.mk A50
  clear A50
  replace H := Option.bind_eq_some_iff.mp H
  obtain ⟨⟨t196, t197, t198⟩, A60, H⟩ := H
  replace H : ((impl_CountTwoPrimes.f k a0).bind fun bt199 => ((spec_CountTwoPrimes.f k a0).bind fun bt201 => (if (t195 != t198) = true then (laws_FnSumsOfPrimesOfAll.j0 k a0 a1 a2 a3 t193 t194 t195 bt199.1 true) else (if t193 = t196 then (if t194 = t197 then (if (bt199.2 != bt201.2) = true then (laws_FnSumsOfPrimesOfAll.j0 k a0 a1 a2 a3 t193 t194 t195 bt199.1 true) else (if bt199.1 = bt201.1 then (if bt199.2 = true then (if (t195 != (decide (bt199.1 > 0))) = true then (laws_FnSumsOfPrimesOfAll.j0 k a0 a1 a2 a3 t193 t194 t195 bt199.1 true) else (if (Int.tmod a0 2) = 0 then (laws_FnSumsOfPrimesOfAll.j0 k a0 a1 a2 a3 t193 t194 t195 bt199.1 (bt199.1 == 0)) else (laws_FnSumsOfPrimesOfAll.j0 k a0 a1 a2 a3 t193 t194 t195 bt199.1 false))) else (if (t195 != false) = true then (laws_FnSumsOfPrimesOfAll.j0 k a0 a1 a2 a3 t193 t194 t195 bt199.1 true) else (laws_FnSumsOfPrimesOfAll.j0 k a0 a1 a2 a3 t193 t194 t195 bt199.1 false))) else (laws_FnSumsOfPrimesOfAll.j0 k a0 a1 a2 a3 t193 t194 t195 bt199.1 true))) else (laws_FnSumsOfPrimesOfAll.j0 k a0 a1 a2 a3 t193 t194 t195 bt199.1 true)) else (laws_FnSumsOfPrimesOfAll.j0 k a0 a1 a2 a3 t193 t194 t195 bt199.1 true))))) = some r := H
  have A6 := Aside0.mk A60
  clear A60
  replace H := Option.bind_eq_some_iff.mp H
  obtain ⟨⟨t199, t200⟩, A70, H⟩ := H
  replace H : ((spec_CountTwoPrimes.f k a0).bind fun bt201 => (if (t195 != t198) = true then (laws_FnSumsOfPrimesOfAll.j0 k a0 a1 a2 a3 t193 t194 t195 t199 true) else (if t193 = t196 then (if t194 = t197 then (if (t200 != bt201.2) = true then (laws_FnSumsOfPrimesOfAll.j0 k a0 a1 a2 a3 t193 t194 t195 t199 true) else (if t199 = bt201.1 then (if t200 = true then (if (t195 != (decide (t199 > 0))) = true then (laws_FnSumsOfPrimesOfAll.j0 k a0 a1 a2 a3 t193 t194 t195 t199 true) else (if (Int.tmod a0 2) = 0 then (laws_FnSumsOfPrimesOfAll.j0 k a0 a1 a2 a3 t193 t194 t195 t199 (t199 == 0)) else (laws_FnSumsOfPrimesOfAll.j0 k a0 a1 a2 a3 t193 t194 t195 t199 false))) else (if (t195 != false) = true then (laws_FnSumsOfPrimesOfAll.j0 k a0 a1 a2 a3 t193 t194 t195 t199 true) else (laws_FnSumsOfPrimesOfAll.j0 k a0 a1 a2 a3 t193 t194 t195 t199 false))) else (laws_FnSumsOfPrimesOfAll.j0 k a0 a1 a2 a3 t193 t194 t195 t199 true))) else (laws_FnSumsOfPrimesOfAll.j0 k a0 a1 a2 a3 t193 t194 t195 t199 true)) else (laws_FnSumsOfPrimesOfAll.j0 k a0 a1 a2 a3 t193 t194 t195 t199 true)))) = some r := H
  have A7 := Aside0.mk A70
  clear A70
  replace H := Option.bind_eq_some_iff.mp H
  obtain ⟨⟨t201, t202⟩, A80, H⟩ := H
  replace H : (if (t195 != t198) = true then (laws_FnSumsOfPrimesOfAll.j0 k a0 a1 a2 a3 t193 t194 t195 t199 true) else (if t193 = t196 then (if t194 = t197 then (if (t200 != t202) = true then (laws_FnSumsOfPrimesOfAll.j0 k a0 a1 a2 a3 t193 t194 t195 t199 true) else (if t199 = t201 then (if t200 = true then (if (t195 != (decide (t199 > 0))) = true then (laws_FnSumsOfPrimesOfAll.j0 k a0 a1 a2 a3 t193 t194 t195 t199 true) else (if (Int.tmod a0 2) = 0 then (laws_FnSumsOfPrimesOfAll.j0 k a0 a1 a2 a3 t193 t194 t195 t199 (t199 == 0)) else (laws_FnSumsOfPrimesOfAll.j0 k a0 a1 a2 a3 t193 t194 t195 t199 false))) else (if (t195 != false) = true then (laws_FnSumsOfPrimesOfAll.j0 k a0 a1 a2 a3 t193 t194 t195 t199 true) else (laws_FnSumsOfPrimesOfAll.j0 k a0 a1 a2 a3 t193 t194 t195 t199 false))) else (laws_FnSumsOfPrimesOfAll.j0 k a0 a1 a2 a3 t193 t194 t195 t199 true))) else (laws_FnSumsOfPrimesOfAll.j0 k a0 a1 a2 a3 t193 t194 t195 t199 true)) else (laws_FnSumsOfPrimesOfAll.j0 k a0 a1 a2 a3 t193 t194 t195 t199 true))) = some r := H
  have A8 := Aside0.mk A80
  clear A80
  have HC9 := Aside0.mk H
  clear H
  go_enter Try.func3, Try.ntmps3
  go_upto_region 5 with (first | ((with_reducible refine gate_callee (f := 8) rfl ?_); refine goesL_ (some 50) rfl rfl Try.func8 (by kernel_rfl) rfl #[.int .i64 a0] rfl (by (try simp only [List.map_toArray, List.map_cons, List.map_nil]); first | done | rfl | (simp only [List.length_drop, List.length_take]; rfl)) ?_; (with_reducible refine (impl_FirstTwoPrimes.calls k a0 t193 t194 t195 _ A5.out).mono ?_); rintro e w10 ⟨rfl, hb⟩; refine ⟨_, rfl, ?_⟩; have n0_ := Aside0.mk (below_step (by repeat (first | (with_reducible first | exact HB.out | apply below_alloc | apply pw_below_drewN | apply below_drew1) | exact HB.out)) hb); clear HB; have HB := n0_; clear n0_; (try clear hb); (try clear hb2); (try clear hk); (try clear hi)) | ((with_reducible refine gate_callee (f := 9) rfl ?_); refine goesL_ (some 56) rfl rfl Try.func9 (by kernel_rfl) rfl #[.int .i64 a0] rfl (by (try simp only [List.map_toArray, List.map_cons, List.map_nil]); first | done | rfl | (simp only [List.length_drop, List.length_take]; rfl)) ?_; (with_reducible refine (spec_FirstTwoPrimes.calls k a0 t196 t197 t198 _ A6.out).mono ?_); rintro e w11 ⟨rfl, hb⟩; refine ⟨_, rfl, ?_⟩; have n0_ := Aside0.mk (below_step (by repeat (first | (with_reducible first | exact HB.out | apply below_alloc | apply pw_below_drewN | apply below_drew1) | exact HB.out)) hb); clear HB; have HB := n0_; clear n0_; (try clear hb); (try clear hb2); (try clear hk); (try clear hi)) | ((with_reducible refine gate_callee (f := 10) rfl ?_); refine goesL_ (some 62) rfl rfl Try.func10 (by kernel_rfl) rfl #[.int .i64 a0] rfl (by (try simp only [List.map_toArray, List.map_cons, List.map_nil]); first | done | rfl | (simp only [List.length_drop, List.length_take]; rfl)) ?_; (with_reducible refine (impl_CountTwoPrimes.calls k a0 t199 t200 _ A7.out).mono ?_); rintro e w12 ⟨rfl, hb⟩; refine ⟨_, rfl, ?_⟩; have n0_ := Aside0.mk (below_step (by repeat (first | (with_reducible first | exact HB.out | apply below_alloc | apply pw_below_drewN | apply below_drew1) | exact HB.out)) hb); clear HB; have HB := n0_; clear n0_; (try clear hb); (try clear hb2); (try clear hk); (try clear hi)) | ((with_reducible refine gate_callee (f := 11) rfl ?_); refine goesL_ (some 67) rfl rfl Try.func11 (by kernel_rfl) rfl #[.int .i64 a0] rfl (by (try simp only [List.map_toArray, List.map_cons, List.map_nil]); first | done | rfl | (simp only [List.length_drop, List.length_take]; rfl)) ?_; (with_reducible refine (spec_CountTwoPrimes.calls k a0 t201 t202 _ A8.out).mono ?_); rintro e w13 ⟨rfl, hb⟩; refine ⟨_, rfl, ?_⟩; have n0_ := Aside0.mk (below_step (by repeat (first | (with_reducible first | exact HB.out | apply below_alloc | apply pw_below_drewN | apply below_drew1) | exact HB.out)) hb); clear HB; have HB := n0_; clear n0_; (try clear hb); (try clear hb2); (try clear hk); (try clear hi)))
  (try simp only [Act.put, List.setIfInBounds_toArray, List.set_cons_zero, List.set_cons_succ])
  go_cut [113] (fun v113 wc => ∃ (kq : Nat) (x113_8 : Bool), v113 = .bool x113_8 ∧ Aside0 (laws_FnSumsOfPrimesOfAll.j0 kq a0 a1 a2 a3 t193 t194 t195 t199 x113_8 = some r) ∧ Aside0 (kq ≤ k) ∧ Aside0 (Below w.heap.size w wc))
  case first =>
    as_aux_lemma =>
    have H := HC9.out
    clear HC9
    by_cases c14 : (t195 != t198) = true
    · as_aux_lemma =>
      rw [if_pos c14] at H
      have c14b0 : (t195 != t198) = true := c14
      (try (have c14b1 : decide (t195 = t198) = false := by simpa using c14))
      (try (have c14b2 : (t195 == t198) = false := by simpa using c14))
      (try (have c14b3 : ¬ (t195 = t198) := by simpa using c14))
      clear c14
      (first | rw [c14b0] | (simp only [i64_w, i32_w]; rw [c14b0]) | skip)
      have H' := Aside0.mk H
      clear H
      go_wp2
      go_meet
      case rel => exact ⟨_, (true), (by first | rfl | (simp; done) | (simp [*]; done)), H', ⟨by first | omega | exact Nat.le_refl _⟩, ⟨by repeat (first | (with_reducible first | exact HB.out | apply below_alloc | apply pw_below_drewN | apply below_drew1) | exact HB.out)⟩⟩
    · as_aux_lemma =>
      rw [if_neg c14] at H
      have c14b0 : (t195 != t198) = false := by simpa using c14
      (try (have c14b1 : decide (t195 = t198) = true := by simpa using c14))
      (try (have c14b2 : (t195 == t198) = true := by simpa using c14))
      clear c14
      (first | rw [c14b0] | (simp only [i64_w, i32_w]; rw [c14b0]) | skip)
      by_cases c15 : t193 = t196
      · as_aux_lemma =>
        rw [if_pos c15] at H
        have c15b0 : (t193 == t196) = true := beq_iff_eq.mpr c15
        have c15b1 : (t193 != t196) = false := bne_eq_false_iff_eq.mpr c15
        clear c15
        by_cases c16 : t194 = t197
        · as_aux_lemma =>
          rw [if_pos c16] at H
          have c16b0 : (t194 == t197) = true := beq_iff_eq.mpr c16
          have c16b1 : (t194 != t197) = false := bne_eq_false_iff_eq.mpr c16
          clear c16
          by_cases c17 : (t200 != t202) = true
          · as_aux_lemma =>
            rw [if_pos c17] at H
            have c17b0 : (t200 != t202) = true := c17
            (try (have c17b1 : decide (t200 = t202) = false := by simpa using c17))
            (try (have c17b2 : (t200 == t202) = false := by simpa using c17))
            (try (have c17b3 : ¬ (t200 = t202) := by simpa using c17))
            clear c17
            have H' := Aside0.mk H
            clear H
            go_wp2
            go_meet
            case rel => exact ⟨_, (true), (by first | rfl | (simp; done) | (simp [*]; done)), H', ⟨by first | omega | exact Nat.le_refl _⟩, ⟨by repeat (first | (with_reducible first | exact HB.out | apply below_alloc | apply pw_below_drewN | apply below_drew1) | exact HB.out)⟩⟩
          · as_aux_lemma =>
            rw [if_neg c17] at H
            have c17b0 : (t200 != t202) = false := by simpa using c17
            (try (have c17b1 : decide (t200 = t202) = true := by simpa using c17))
            (try (have c17b2 : (t200 == t202) = true := by simpa using c17))
            clear c17
            by_cases c18 : t199 = t201
            · as_aux_lemma =>
              rw [if_pos c18] at H
              have c18b0 : (t199 == t201) = true := beq_iff_eq.mpr c18
              have c18b1 : (t199 != t201) = false := bne_eq_false_iff_eq.mpr c18
              clear c18
              by_cases c19 : t200 = true
              · subst c19
                have H1 : (if (t195 != (decide (t199 > 0))) = true then (laws_FnSumsOfPrimesOfAll.j0 k a0 a1 a2 a3 t193 t194 t195 t199 true) else (if (Int.tmod a0 2) = 0 then (laws_FnSumsOfPrimesOfAll.j0 k a0 a1 a2 a3 t193 t194 t195 t199 (t199 == 0)) else (laws_FnSumsOfPrimesOfAll.j0 k a0 a1 a2 a3 t193 t194 t195 t199 false))) = some r := by rw [if_pos rfl] at H; exact H
                clear H
                have H := H1
                clear H1
                by_cases c20 : (t195 != (decide (t199 > 0))) = true
                · as_aux_lemma =>
                  rw [if_pos c20] at H
                  have c20b0 : (t195 != (decide (t199 > 0))) = true := c20
                  (try (have c20b1 : decide (t195 = (decide (t199 > 0))) = false := by simpa using c20))
                  (try (have c20b2 : (t195 == (decide (t199 > 0))) = false := by simpa using c20))
                  (try (have c20b3 : ¬ (t195 = (decide (t199 > 0))) := by simpa using c20))
                  clear c20
                  have H' := Aside0.mk H
                  clear H
                  go_wp2
                  go_meet
                  case rel => exact ⟨_, (true), (by first | rfl | (simp; done) | (simp [*]; done)), H', ⟨by first | omega | exact Nat.le_refl _⟩, ⟨by repeat (first | (with_reducible first | exact HB.out | apply below_alloc | apply pw_below_drewN | apply below_drew1) | exact HB.out)⟩⟩
                · as_aux_lemma =>
                  rw [if_neg c20] at H
                  have c20b0 : (t195 != (decide (t199 > 0))) = false := by simpa using c20
                  (try (have c20b1 : decide (t195 = (decide (t199 > 0))) = true := by simpa using c20))
                  (try (have c20b2 : (t195 == (decide (t199 > 0))) = true := by simpa using c20))
                  clear c20
                  by_cases c21 : (Int.tmod a0 2) = 0
                  · as_aux_lemma =>
                    rw [if_pos c21] at H
                    have c21b0 : ((Int.tmod a0 2) == 0) = true := beq_iff_eq.mpr c21
                    have c21b1 : ((Int.tmod a0 2) != 0) = false := bne_eq_false_iff_eq.mpr c21
                    clear c21
                    have H' := Aside0.mk H
                    clear H
                    go_wp2
                    go_meet
                    case rel => exact ⟨_, ((t199 == 0)), (by first | rfl | (simp; done) | (simp [*]; done)), H', ⟨by first | omega | exact Nat.le_refl _⟩, ⟨by repeat (first | (with_reducible first | exact HB.out | apply below_alloc | apply pw_below_drewN | apply below_drew1) | exact HB.out)⟩⟩
                  · as_aux_lemma =>
                    rw [if_neg c21] at H
                    have c21b0 : ((Int.tmod a0 2) == 0) = false := beq_eq_false_iff_ne.mpr c21
                    have c21b1 : ((Int.tmod a0 2) != 0) = true := bne_iff_ne.mpr c21
                    have H' := Aside0.mk H
                    clear H
                    go_wp2
                    go_meet
                    case rel => exact ⟨_, (false), (by first | rfl | (simp; done) | (simp [*]; done)), H', ⟨by first | omega | exact Nat.le_refl _⟩, ⟨by repeat (first | (with_reducible first | exact HB.out | apply below_alloc | apply pw_below_drewN | apply below_drew1) | exact HB.out)⟩⟩
              · replace c19 := Bool.eq_false_iff.mpr c19
                subst c19
                have H1 : (if (t195 != false) = true then (laws_FnSumsOfPrimesOfAll.j0 k a0 a1 a2 a3 t193 t194 t195 t199 true) else (laws_FnSumsOfPrimesOfAll.j0 k a0 a1 a2 a3 t193 t194 t195 t199 false)) = some r := by rw [if_neg (show ¬ (false = true) by decide)] at H; exact H
                clear H
                have H := H1
                clear H1
                by_cases c22 : (t195 != false) = true
                · as_aux_lemma =>
                  rw [if_pos c22] at H
                  have hT_ : t195 = true := by simpa using c22
                  clear c22
                  subst hT_
                  have H' := Aside0.mk H
                  clear H
                  go_wp2
                  go_meet
                  case rel => exact ⟨_, (true), (by first | rfl | (simp; done) | (simp [*]; done)), H', ⟨by first | omega | exact Nat.le_refl _⟩, ⟨by repeat (first | (with_reducible first | exact HB.out | apply below_alloc | apply pw_below_drewN | apply below_drew1) | exact HB.out)⟩⟩
                · as_aux_lemma =>
                  rw [if_neg c22] at H
                  have hT_ : t195 = false := by simpa using c22
                  clear c22
                  subst hT_
                  have H' := Aside0.mk H
                  clear H
                  go_wp2
                  go_meet
                  case rel => exact ⟨_, (false), (by first | rfl | (simp; done) | (simp [*]; done)), H', ⟨by first | omega | exact Nat.le_refl _⟩, ⟨by repeat (first | (with_reducible first | exact HB.out | apply below_alloc | apply pw_below_drewN | apply below_drew1) | exact HB.out)⟩⟩
            · as_aux_lemma =>
              rw [if_neg c18] at H
              have c18b0 : (t199 == t201) = false := beq_eq_false_iff_ne.mpr c18
              have c18b1 : (t199 != t201) = true := bne_iff_ne.mpr c18
              have H' := Aside0.mk H
              clear H
              go_wp2
              go_meet
              case rel => exact ⟨_, (true), (by first | rfl | (simp; done) | (simp [*]; done)), H', ⟨by first | omega | exact Nat.le_refl _⟩, ⟨by repeat (first | (with_reducible first | exact HB.out | apply below_alloc | apply pw_below_drewN | apply below_drew1) | exact HB.out)⟩⟩
        · as_aux_lemma =>
          rw [if_neg c16] at H
          have c16b0 : (t194 == t197) = false := beq_eq_false_iff_ne.mpr c16
          have c16b1 : (t194 != t197) = true := bne_iff_ne.mpr c16
          have H' := Aside0.mk H
          clear H
          go_wp2
          go_meet
          case rel => exact ⟨_, (true), (by first | rfl | (simp; done) | (simp [*]; done)), H', ⟨by first | omega | exact Nat.le_refl _⟩, ⟨by repeat (first | (with_reducible first | exact HB.out | apply below_alloc | apply pw_below_drewN | apply below_drew1) | exact HB.out)⟩⟩
      · as_aux_lemma =>
        rw [if_neg c15] at H
        have c15b0 : (t193 == t196) = false := beq_eq_false_iff_ne.mpr c15
        have c15b1 : (t193 != t196) = true := bne_iff_ne.mpr c15
        have H' := Aside0.mk H
        clear H
        go_wp2
        go_meet
        case rel => exact ⟨_, (true), (by first | rfl | (simp; done) | (simp [*]; done)), H', ⟨by first | omega | exact Nat.le_refl _⟩, ⟨by repeat (first | (with_reducible first | exact HB.out | apply below_alloc | apply pw_below_drewN | apply below_drew1) | exact HB.out)⟩⟩
  case rest =>
    as_aux_lemma =>
    clear HC9
    try clear c1
    try clear c2
    try clear p2
    try clear c3
    try clear c8
    try clear c9
    try clear c10
    try clear c11
    try clear c14
    try clear c14b0
    try clear c14b1
    try clear c14b2
    try clear c15
    try clear c15b0
    try clear c15b1
    try clear c16
    try clear c16b0
    try clear c16b1
    try clear c17
    try clear c17b0
    try clear c17b1
    try clear c17b2
    try clear c18
    try clear c18b0
    try clear c18b1
    try clear c19
    try clear c20
    try clear c20b0
    try clear c20b1
    try clear c20b2
    try clear c21
    try clear c21b0
    try clear c21b1
    try clear c22
    try clear c22b0
    try clear c22b1
    try clear c22b2
    obtain ⟨kq, x113_8, rfl, HA, HJ8, HB⟩ := hcut
    cases kq with
    | zero => exact absurd HA.out (by simp [laws_FnSumsOfPrimesOfAll.j0])
    | succ kj8 =>
      have H := HA.out
      clear HA
      simp only [laws_FnSumsOfPrimesOfAll.j0] at H
      by_cases c23 : x113_8 = true
      · subst c23
        have H1 : (some false) = some r := by rw [if_pos rfl] at H; exact H
        clear H
        have H := H1
        clear H1
        obtain rfl := Option.some.inj H
        go_wp2
        go_ret
        exact ⟨by first | rfl | (simp [errW_none, errW_some] <;> rfl) | (simp [*, errW_none, errW_some] <;> rfl), by repeat (first | (with_reducible first | exact HB.out | apply below_alloc | apply pw_below_drewN | apply below_drew1) | exact HB.out)⟩
      · replace c23 := Bool.eq_false_iff.mpr c23
        subst c23
        have H1 : (if t195 = true then ((impl_IsPrime.f kj8 t193).bind fun bt203 => ((impl_IsPrime.f kj8 t194).bind fun bt205 => (if (wrap64 (t193 + t194)) = a0 then (if t193 > t194 then (some false) else (if bt203.2 = true then (if bt203.1 = true then (if bt205.2 = true then (if bt205.1 = true then (if (Int.tmod a0 2) = 1 then (if t193 = 2 then (if t199 = 1 then (laws_FnSumsOfPrimesOfAll.j1 kj8 a1 a2 a3) else (some false)) else (some false)) else (laws_FnSumsOfPrimesOfAll.j1 kj8 a1 a2 a3)) else (some false)) else (some false)) else (some false)) else (some false))) else (some false)))) else (laws_FnSumsOfPrimesOfAll.j1 kj8 a1 a2 a3)) = some r := by rw [if_neg (show ¬ (false = true) by decide)] at H; exact H
        clear H
        have H := H1
        clear H1
        have HC24 := Aside0.mk H
        clear H
        go_upto_if 114 with (fail)
        go_cut [] (fun wc => ∃ (kq : Nat), Aside0 (laws_FnSumsOfPrimesOfAll.j1 kq a1 a2 a3 = some r) ∧ Aside0 (kq ≤ kj8) ∧ Aside0 (Below w.heap.size w wc))
        case first =>
          as_aux_lemma =>
          have H := HC24.out
          clear HC24
          by_cases c25 : t195 = true
          · subst c25
            have H1 : ((impl_IsPrime.f kj8 t193).bind fun bt203 => ((impl_IsPrime.f kj8 t194).bind fun bt205 => (if (wrap64 (t193 + t194)) = a0 then (if t193 > t194 then (some false) else (if bt203.2 = true then (if bt203.1 = true then (if bt205.2 = true then (if bt205.1 = true then (if (Int.tmod a0 2) = 1 then (if t193 = 2 then (if t199 = 1 then (laws_FnSumsOfPrimesOfAll.j1 kj8 a1 a2 a3) else (some false)) else (some false)) else (laws_FnSumsOfPrimesOfAll.j1 kj8 a1 a2 a3)) else (some false)) else (some false)) else (some false)) else (some false))) else (some false)))) = some r := by rw [if_pos rfl] at H; exact H
            clear H
            have H := H1
            clear H1
            replace H := Option.bind_eq_some_iff.mp H
            obtain ⟨⟨t203, t204⟩, A260, H⟩ := H
            replace H : ((impl_IsPrime.f kj8 t194).bind fun bt205 => (if (wrap64 (t193 + t194)) = a0 then (if t193 > t194 then (some false) else (if t204 = true then (if t203 = true then (if bt205.2 = true then (if bt205.1 = true then (if (Int.tmod a0 2) = 1 then (if t193 = 2 then (if t199 = 1 then (laws_FnSumsOfPrimesOfAll.j1 kj8 a1 a2 a3) else (some false)) else (some false)) else (laws_FnSumsOfPrimesOfAll.j1 kj8 a1 a2 a3)) else (some false)) else (some false)) else (some false)) else (some false))) else (some false))) = some r := H
            have A26 := Aside0.mk A260
            clear A260
            replace H := Option.bind_eq_some_iff.mp H
            obtain ⟨⟨t205, t206⟩, A270, H⟩ := H
            replace H : (if (wrap64 (t193 + t194)) = a0 then (if t193 > t194 then (some false) else (if t204 = true then (if t203 = true then (if t206 = true then (if t205 = true then (if (Int.tmod a0 2) = 1 then (if t193 = 2 then (if t199 = 1 then (laws_FnSumsOfPrimesOfAll.j1 kj8 a1 a2 a3) else (some false)) else (some false)) else (laws_FnSumsOfPrimesOfAll.j1 kj8 a1 a2 a3)) else (some false)) else (some false)) else (some false)) else (some false))) else (some false)) = some r := H
            have A27 := Aside0.mk A270
            clear A270
            by_cases c28 : (wrap64 (t193 + t194)) = a0
            · as_aux_lemma =>
              rw [if_pos c28] at H
              have c28b0 : ((wrap64 (t193 + t194)) == a0) = true := beq_iff_eq.mpr c28
              have c28b1 : ((wrap64 (t193 + t194)) != a0) = false := bne_eq_false_iff_eq.mpr c28
              clear c28
              (first | rw [c28b0] | (simp only [i64_w, i32_w]; rw [c28b0]) | skip)
              by_cases c29 : t193 > t194
              · as_aux_lemma =>
                rw [if_pos c29] at H
                have c29b0 : decide (t194 < t193) = true := decide_eq_true c29
                clear c29
                obtain rfl := Option.some.inj H
                go_wp2_with (first | ((with_reducible refine gate_callee (f := 12) rfl ?_); refine goesL_ (some 117) rfl rfl Try.func12 (by kernel_rfl) rfl #[.int .i64 t193] rfl (by (try simp only [List.map_toArray, List.map_cons, List.map_nil]); first | done | rfl | (simp only [List.length_drop, List.length_take]; rfl)) ?_; (with_reducible refine (impl_IsPrime.calls kj8 t193 t203 t204 _ A26.out).mono ?_); rintro e w' ⟨rfl, ⟨nd, rfl⟩⟩; refine ⟨_, rfl, ?_⟩) | ((with_reducible refine gate_callee (f := 12) rfl ?_); refine goesL_ (some 122) rfl rfl Try.func12 (by kernel_rfl) rfl #[.int .i64 t194] rfl (by (try simp only [List.map_toArray, List.map_cons, List.map_nil]); first | done | rfl | (simp only [List.length_drop, List.length_take]; rfl)) ?_; (with_reducible refine (impl_IsPrime.calls kj8 t194 t205 t206 _ A27.out).mono ?_); rintro e w' ⟨rfl, ⟨nd, rfl⟩⟩; refine ⟨_, rfl, ?_⟩))
                go_ret
                exact ⟨by first | rfl | (simp [errW_none, errW_some] <;> rfl) | (simp [*, errW_none, errW_some] <;> rfl), by repeat (first | (with_reducible first | exact HB.out | apply below_alloc | apply pw_below_drewN | apply below_drew1) | exact HB.out)⟩
              · as_aux_lemma =>
                rw [if_neg c29] at H
                have c29b0 : decide (t194 < t193) = false := decide_eq_false c29
                clear c29
                by_cases c30 : t204 = true
                · subst c30
                  have H1 : (if t203 = true then (if t206 = true then (if t205 = true then (if (Int.tmod a0 2) = 1 then (if t193 = 2 then (if t199 = 1 then (laws_FnSumsOfPrimesOfAll.j1 kj8 a1 a2 a3) else (some false)) else (some false)) else (laws_FnSumsOfPrimesOfAll.j1 kj8 a1 a2 a3)) else (some false)) else (some false)) else (some false)) = some r := by rw [if_pos rfl] at H; exact H
                  clear H
                  have H := H1
                  clear H1
                  by_cases c31 : t203 = true
                  · subst c31
                    have H1 : (if t206 = true then (if t205 = true then (if (Int.tmod a0 2) = 1 then (if t193 = 2 then (if t199 = 1 then (laws_FnSumsOfPrimesOfAll.j1 kj8 a1 a2 a3) else (some false)) else (some false)) else (laws_FnSumsOfPrimesOfAll.j1 kj8 a1 a2 a3)) else (some false)) else (some false)) = some r := by rw [if_pos rfl] at H; exact H
                    clear H
                    have H := H1
                    clear H1
                    by_cases c32 : t206 = true
                    · subst c32
                      have H1 : (if t205 = true then (if (Int.tmod a0 2) = 1 then (if t193 = 2 then (if t199 = 1 then (laws_FnSumsOfPrimesOfAll.j1 kj8 a1 a2 a3) else (some false)) else (some false)) else (laws_FnSumsOfPrimesOfAll.j1 kj8 a1 a2 a3)) else (some false)) = some r := by rw [if_pos rfl] at H; exact H
                      clear H
                      have H := H1
                      clear H1
                      by_cases c33 : t205 = true
                      · subst c33
                        have H1 : (if (Int.tmod a0 2) = 1 then (if t193 = 2 then (if t199 = 1 then (laws_FnSumsOfPrimesOfAll.j1 kj8 a1 a2 a3) else (some false)) else (some false)) else (laws_FnSumsOfPrimesOfAll.j1 kj8 a1 a2 a3)) = some r := by rw [if_pos rfl] at H; exact H
                        clear H
                        have H := H1
                        clear H1
                        by_cases c34 : (Int.tmod a0 2) = 1
                        · as_aux_lemma =>
                          rw [if_pos c34] at H
                          have c34b0 : ((Int.tmod a0 2) == 1) = true := beq_iff_eq.mpr c34
                          have c34b1 : ((Int.tmod a0 2) != 1) = false := bne_eq_false_iff_eq.mpr c34
                          clear c34
                          by_cases c35 : t193 = 2
                          · as_aux_lemma =>
                            rw [if_pos c35] at H
                            have c35b0 : (t193 == 2) = true := beq_iff_eq.mpr c35
                            have c35b1 : (t193 != 2) = false := bne_eq_false_iff_eq.mpr c35
                            clear c35
                            by_cases c36 : t199 = 1
                            · as_aux_lemma =>
                              rw [if_pos c36] at H
                              have c36b0 : (t199 == 1) = true := beq_iff_eq.mpr c36
                              have c36b1 : (t199 != 1) = false := bne_eq_false_iff_eq.mpr c36
                              clear c36
                              have H' := Aside0.mk H
                              clear H
                              go_wp2_with (first | ((with_reducible refine gate_callee (f := 12) rfl ?_); refine goesL_ (some 117) rfl rfl Try.func12 (by kernel_rfl) rfl #[.int .i64 t193] rfl (by (try simp only [List.map_toArray, List.map_cons, List.map_nil]); first | done | rfl | (simp only [List.length_drop, List.length_take]; rfl)) ?_; (with_reducible refine (impl_IsPrime.calls kj8 t193 true true _ A26.out).mono ?_); rintro e w' ⟨rfl, ⟨nd, rfl⟩⟩; refine ⟨_, rfl, ?_⟩) | ((with_reducible refine gate_callee (f := 12) rfl ?_); refine goesL_ (some 122) rfl rfl Try.func12 (by kernel_rfl) rfl #[.int .i64 t194] rfl (by (try simp only [List.map_toArray, List.map_cons, List.map_nil]); first | done | rfl | (simp only [List.length_drop, List.length_take]; rfl)) ?_; (with_reducible refine (impl_IsPrime.calls kj8 t194 true true _ A27.out).mono ?_); rintro e w' ⟨rfl, ⟨nd, rfl⟩⟩; refine ⟨_, rfl, ?_⟩))
                              go_meet
                              case rel => exact ⟨_, H', ⟨by have := HJ8.out; first | omega | exact Nat.le_refl _⟩, ⟨by repeat (first | (with_reducible first | exact HB.out | apply below_alloc | apply pw_below_drewN | apply below_drew1) | exact HB.out)⟩⟩
                            · as_aux_lemma =>
                              rw [if_neg c36] at H
                              have c36b0 : (t199 == 1) = false := beq_eq_false_iff_ne.mpr c36
                              have c36b1 : (t199 != 1) = true := bne_iff_ne.mpr c36
                              obtain rfl := Option.some.inj H
                              go_wp2_with (first | ((with_reducible refine gate_callee (f := 12) rfl ?_); refine goesL_ (some 117) rfl rfl Try.func12 (by kernel_rfl) rfl #[.int .i64 t193] rfl (by (try simp only [List.map_toArray, List.map_cons, List.map_nil]); first | done | rfl | (simp only [List.length_drop, List.length_take]; rfl)) ?_; (with_reducible refine (impl_IsPrime.calls kj8 t193 true true _ A26.out).mono ?_); rintro e w' ⟨rfl, ⟨nd, rfl⟩⟩; refine ⟨_, rfl, ?_⟩) | ((with_reducible refine gate_callee (f := 12) rfl ?_); refine goesL_ (some 122) rfl rfl Try.func12 (by kernel_rfl) rfl #[.int .i64 t194] rfl (by (try simp only [List.map_toArray, List.map_cons, List.map_nil]); first | done | rfl | (simp only [List.length_drop, List.length_take]; rfl)) ?_; (with_reducible refine (impl_IsPrime.calls kj8 t194 true true _ A27.out).mono ?_); rintro e w' ⟨rfl, ⟨nd, rfl⟩⟩; refine ⟨_, rfl, ?_⟩))
                              go_ret
                              exact ⟨by first | rfl | (simp [errW_none, errW_some] <;> rfl) | (simp [*, errW_none, errW_some] <;> rfl), by repeat (first | (with_reducible first | exact HB.out | apply below_alloc | apply pw_below_drewN | apply below_drew1) | exact HB.out)⟩
                          · as_aux_lemma =>
                            rw [if_neg c35] at H
                            have c35b0 : (t193 == 2) = false := beq_eq_false_iff_ne.mpr c35
                            have c35b1 : (t193 != 2) = true := bne_iff_ne.mpr c35
                            obtain rfl := Option.some.inj H
                            go_wp2_with (first | ((with_reducible refine gate_callee (f := 12) rfl ?_); refine goesL_ (some 117) rfl rfl Try.func12 (by kernel_rfl) rfl #[.int .i64 t193] rfl (by (try simp only [List.map_toArray, List.map_cons, List.map_nil]); first | done | rfl | (simp only [List.length_drop, List.length_take]; rfl)) ?_; (with_reducible refine (impl_IsPrime.calls kj8 t193 true true _ A26.out).mono ?_); rintro e w' ⟨rfl, ⟨nd, rfl⟩⟩; refine ⟨_, rfl, ?_⟩) | ((with_reducible refine gate_callee (f := 12) rfl ?_); refine goesL_ (some 122) rfl rfl Try.func12 (by kernel_rfl) rfl #[.int .i64 t194] rfl (by (try simp only [List.map_toArray, List.map_cons, List.map_nil]); first | done | rfl | (simp only [List.length_drop, List.length_take]; rfl)) ?_; (with_reducible refine (impl_IsPrime.calls kj8 t194 true true _ A27.out).mono ?_); rintro e w' ⟨rfl, ⟨nd, rfl⟩⟩; refine ⟨_, rfl, ?_⟩))
                            go_ret
                            exact ⟨by first | rfl | (simp [errW_none, errW_some] <;> rfl) | (simp [*, errW_none, errW_some] <;> rfl), by repeat (first | (with_reducible first | exact HB.out | apply below_alloc | apply pw_below_drewN | apply below_drew1) | exact HB.out)⟩
                        · as_aux_lemma =>
                          rw [if_neg c34] at H
                          have c34b0 : ((Int.tmod a0 2) == 1) = false := beq_eq_false_iff_ne.mpr c34
                          have c34b1 : ((Int.tmod a0 2) != 1) = true := bne_iff_ne.mpr c34
                          have H' := Aside0.mk H
                          clear H
                          go_wp2_with (first | ((with_reducible refine gate_callee (f := 12) rfl ?_); refine goesL_ (some 117) rfl rfl Try.func12 (by kernel_rfl) rfl #[.int .i64 t193] rfl (by (try simp only [List.map_toArray, List.map_cons, List.map_nil]); first | done | rfl | (simp only [List.length_drop, List.length_take]; rfl)) ?_; (with_reducible refine (impl_IsPrime.calls kj8 t193 true true _ A26.out).mono ?_); rintro e w' ⟨rfl, ⟨nd, rfl⟩⟩; refine ⟨_, rfl, ?_⟩) | ((with_reducible refine gate_callee (f := 12) rfl ?_); refine goesL_ (some 122) rfl rfl Try.func12 (by kernel_rfl) rfl #[.int .i64 t194] rfl (by (try simp only [List.map_toArray, List.map_cons, List.map_nil]); first | done | rfl | (simp only [List.length_drop, List.length_take]; rfl)) ?_; (with_reducible refine (impl_IsPrime.calls kj8 t194 true true _ A27.out).mono ?_); rintro e w' ⟨rfl, ⟨nd, rfl⟩⟩; refine ⟨_, rfl, ?_⟩))
                          go_meet
                          case rel => exact ⟨_, H', ⟨by have := HJ8.out; first | omega | exact Nat.le_refl _⟩, ⟨by repeat (first | (with_reducible first | exact HB.out | apply below_alloc | apply pw_below_drewN | apply below_drew1) | exact HB.out)⟩⟩
                      · replace c33 := Bool.eq_false_iff.mpr c33
                        subst c33
                        have H1 : (some false) = some r := by rw [if_neg (show ¬ (false = true) by decide)] at H; exact H
                        clear H
                        have H := H1
                        clear H1
                        obtain rfl := Option.some.inj H
                        go_wp2_with (first | ((with_reducible refine gate_callee (f := 12) rfl ?_); refine goesL_ (some 117) rfl rfl Try.func12 (by kernel_rfl) rfl #[.int .i64 t193] rfl (by (try simp only [List.map_toArray, List.map_cons, List.map_nil]); first | done | rfl | (simp only [List.length_drop, List.length_take]; rfl)) ?_; (with_reducible refine (impl_IsPrime.calls kj8 t193 true true _ A26.out).mono ?_); rintro e w' ⟨rfl, ⟨nd, rfl⟩⟩; refine ⟨_, rfl, ?_⟩) | ((with_reducible refine gate_callee (f := 12) rfl ?_); refine goesL_ (some 122) rfl rfl Try.func12 (by kernel_rfl) rfl #[.int .i64 t194] rfl (by (try simp only [List.map_toArray, List.map_cons, List.map_nil]); first | done | rfl | (simp only [List.length_drop, List.length_take]; rfl)) ?_; (with_reducible refine (impl_IsPrime.calls kj8 t194 false true _ A27.out).mono ?_); rintro e w' ⟨rfl, ⟨nd, rfl⟩⟩; refine ⟨_, rfl, ?_⟩))
                        go_ret
                        exact ⟨by first | rfl | (simp [errW_none, errW_some] <;> rfl) | (simp [*, errW_none, errW_some] <;> rfl), by repeat (first | (with_reducible first | exact HB.out | apply below_alloc | apply pw_below_drewN | apply below_drew1) | exact HB.out)⟩
                    · replace c32 := Bool.eq_false_iff.mpr c32
                      subst c32
                      have H1 : (some false) = some r := by rw [if_neg (show ¬ (false = true) by decide)] at H; exact H
                      clear H
                      have H := H1
                      clear H1
                      obtain rfl := Option.some.inj H
                      go_wp2_with (first | ((with_reducible refine gate_callee (f := 12) rfl ?_); refine goesL_ (some 117) rfl rfl Try.func12 (by kernel_rfl) rfl #[.int .i64 t193] rfl (by (try simp only [List.map_toArray, List.map_cons, List.map_nil]); first | done | rfl | (simp only [List.length_drop, List.length_take]; rfl)) ?_; (with_reducible refine (impl_IsPrime.calls kj8 t193 true true _ A26.out).mono ?_); rintro e w' ⟨rfl, ⟨nd, rfl⟩⟩; refine ⟨_, rfl, ?_⟩) | ((with_reducible refine gate_callee (f := 12) rfl ?_); refine goesL_ (some 122) rfl rfl Try.func12 (by kernel_rfl) rfl #[.int .i64 t194] rfl (by (try simp only [List.map_toArray, List.map_cons, List.map_nil]); first | done | rfl | (simp only [List.length_drop, List.length_take]; rfl)) ?_; (with_reducible refine (impl_IsPrime.calls kj8 t194 t205 false _ A27.out).mono ?_); rintro e w' ⟨rfl, ⟨nd, rfl⟩⟩; refine ⟨_, rfl, ?_⟩))
                      go_ret
                      exact ⟨by first | rfl | (simp [errW_none, errW_some] <;> rfl) | (simp [*, errW_none, errW_some] <;> rfl), by repeat (first | (with_reducible first | exact HB.out | apply below_alloc | apply pw_below_drewN | apply below_drew1) | exact HB.out)⟩
                  · replace c31 := Bool.eq_false_iff.mpr c31
                    subst c31
                    have H1 : (some false) = some r := by rw [if_neg (show ¬ (false = true) by decide)] at H; exact H
                    clear H
                    have H := H1
                    clear H1
                    obtain rfl := Option.some.inj H
                    go_wp2_with (first | ((with_reducible refine gate_callee (f := 12) rfl ?_); refine goesL_ (some 117) rfl rfl Try.func12 (by kernel_rfl) rfl #[.int .i64 t193] rfl (by (try simp only [List.map_toArray, List.map_cons, List.map_nil]); first | done | rfl | (simp only [List.length_drop, List.length_take]; rfl)) ?_; (with_reducible refine (impl_IsPrime.calls kj8 t193 false true _ A26.out).mono ?_); rintro e w' ⟨rfl, ⟨nd, rfl⟩⟩; refine ⟨_, rfl, ?_⟩) | ((with_reducible refine gate_callee (f := 12) rfl ?_); refine goesL_ (some 122) rfl rfl Try.func12 (by kernel_rfl) rfl #[.int .i64 t194] rfl (by (try simp only [List.map_toArray, List.map_cons, List.map_nil]); first | done | rfl | (simp only [List.length_drop, List.length_take]; rfl)) ?_; (with_reducible refine (impl_IsPrime.calls kj8 t194 t205 t206 _ A27.out).mono ?_); rintro e w' ⟨rfl, ⟨nd, rfl⟩⟩; refine ⟨_, rfl, ?_⟩))
                    go_ret
                    exact ⟨by first | rfl | (simp [errW_none, errW_some] <;> rfl) | (simp [*, errW_none, errW_some] <;> rfl), by repeat (first | (with_reducible first | exact HB.out | apply below_alloc | apply pw_below_drewN | apply below_drew1) | exact HB.out)⟩
                · replace c30 := Bool.eq_false_iff.mpr c30
                  subst c30
                  have H1 : (some false) = some r := by rw [if_neg (show ¬ (false = true) by decide)] at H; exact H
                  clear H
                  have H := H1
                  clear H1
                  obtain rfl := Option.some.inj H
                  go_wp2_with (first | ((with_reducible refine gate_callee (f := 12) rfl ?_); refine goesL_ (some 117) rfl rfl Try.func12 (by kernel_rfl) rfl #[.int .i64 t193] rfl (by (try simp only [List.map_toArray, List.map_cons, List.map_nil]); first | done | rfl | (simp only [List.length_drop, List.length_take]; rfl)) ?_; (with_reducible refine (impl_IsPrime.calls kj8 t193 t203 false _ A26.out).mono ?_); rintro e w' ⟨rfl, ⟨nd, rfl⟩⟩; refine ⟨_, rfl, ?_⟩) | ((with_reducible refine gate_callee (f := 12) rfl ?_); refine goesL_ (some 122) rfl rfl Try.func12 (by kernel_rfl) rfl #[.int .i64 t194] rfl (by (try simp only [List.map_toArray, List.map_cons, List.map_nil]); first | done | rfl | (simp only [List.length_drop, List.length_take]; rfl)) ?_; (with_reducible refine (impl_IsPrime.calls kj8 t194 t205 t206 _ A27.out).mono ?_); rintro e w' ⟨rfl, ⟨nd, rfl⟩⟩; refine ⟨_, rfl, ?_⟩))
                  go_ret
                  exact ⟨by first | rfl | (simp [errW_none, errW_some] <;> rfl) | (simp [*, errW_none, errW_some] <;> rfl), by repeat (first | (with_reducible first | exact HB.out | apply below_alloc | apply pw_below_drewN | apply below_drew1) | exact HB.out)⟩
            · as_aux_lemma =>
              rw [if_neg c28] at H
              have c28b0 : ((wrap64 (t193 + t194)) == a0) = false := beq_eq_false_iff_ne.mpr c28
              have c28b1 : ((wrap64 (t193 + t194)) != a0) = true := bne_iff_ne.mpr c28
              (first | rw [c28b0] | (simp only [i64_w, i32_w]; rw [c28b0]) | skip)
              obtain rfl := Option.some.inj H
              go_wp2_with (first | ((with_reducible refine gate_callee (f := 12) rfl ?_); refine goesL_ (some 117) rfl rfl Try.func12 (by kernel_rfl) rfl #[.int .i64 t193] rfl (by (try simp only [List.map_toArray, List.map_cons, List.map_nil]); first | done | rfl | (simp only [List.length_drop, List.length_take]; rfl)) ?_; (with_reducible refine (impl_IsPrime.calls kj8 t193 t203 t204 _ A26.out).mono ?_); rintro e w' ⟨rfl, ⟨nd, rfl⟩⟩; refine ⟨_, rfl, ?_⟩) | ((with_reducible refine gate_callee (f := 12) rfl ?_); refine goesL_ (some 122) rfl rfl Try.func12 (by kernel_rfl) rfl #[.int .i64 t194] rfl (by (try simp only [List.map_toArray, List.map_cons, List.map_nil]); first | done | rfl | (simp only [List.length_drop, List.length_take]; rfl)) ?_; (with_reducible refine (impl_IsPrime.calls kj8 t194 t205 t206 _ A27.out).mono ?_); rintro e w' ⟨rfl, ⟨nd, rfl⟩⟩; refine ⟨_, rfl, ?_⟩))
              go_ret
              exact ⟨by first | rfl | (simp [errW_none, errW_some] <;> rfl) | (simp [*, errW_none, errW_some] <;> rfl), by repeat (first | (with_reducible first | exact HB.out | apply below_alloc | apply pw_below_drewN | apply below_drew1) | exact HB.out)⟩
          · replace c25 := Bool.eq_false_iff.mpr c25
            subst c25
            have H1 : (laws_FnSumsOfPrimesOfAll.j1 kj8 a1 a2 a3) = some r := by rw [if_neg (show ¬ (false = true) by decide)] at H; exact H
            clear H
            have H := H1
            clear H1
            have H' := Aside0.mk H
            clear H
            go_wp2
            go_meet
            case rel => exact ⟨_, H', ⟨by have := HJ8.out; first | omega | exact Nat.le_refl _⟩, ⟨by repeat (first | (with_reducible first | exact HB.out | apply below_alloc | apply pw_below_drewN | apply below_drew1) | exact HB.out)⟩⟩
        case rest =>
          as_aux_lemma =>
          clear HC24
          try clear c1
          try clear c2
          try clear p2
          try clear c3
          try clear p6
          try clear c8
          try clear c9
          try clear c10
          try clear c11
          try clear c12
          try clear c14
          try clear c14b0
          try clear c14b1
          try clear c14b2
          try clear c15
          try clear c15b0
          try clear c15b1
          try clear c16
          try clear c16b0
          try clear c16b1
          try clear c17
          try clear c17b0
          try clear c17b1
          try clear c17b2
          try clear c18
          try clear c18b0
          try clear c18b1
          try clear c19
          try clear c20
          try clear c20b0
          try clear c20b1
          try clear c20b2
          try clear c21
          try clear c21b0
          try clear c21b1
          try clear c22
          try clear c22b0
          try clear c22b1
          try clear c22b2
          try clear c23
          try clear c25
          try clear c28
          try clear c28b0
          try clear c28b1
          try clear c29
          try clear c29b0
          try clear c30
          try clear c31
          try clear c32
          try clear c33
          try clear c34
          try clear c34b0
          try clear c34b1
          try clear c35
          try clear c35b0
          try clear c35b1
          try clear c36
          try clear c36b0
          try clear c36b1
          try clear p2
          obtain ⟨kq, HA, HJ23, HB⟩ := hcut
          cases kq with
          | zero => exact absurd HA.out (by simp [laws_FnSumsOfPrimesOfAll.j1])
          | succ kj23 =>
            have H := HA.out
            clear HA
            simp only [laws_FnSumsOfPrimesOfAll.j1] at H
            replace H := Option.bind_eq_some_iff.mp H
            obtain ⟨⟨t207, t208⟩, A370, H⟩ := H
            replace H : ((spec_TwinsUpTo.f kj23 a1).bind fun bt211 => ((impl_CrossersUpTo.f kj23 a1).bind fun bt215 => ((spec_CrossersUpTo.f kj23 a1).bind fun bt219 => ((impl_SmoothUpTo.f kj23 a2 a3).bind fun bt223 => ((spec_SmoothUpTo.f kj23 a2 a3).bind fun bt227 => (if (t208 != bt211.2) = true then (laws_FnSumsOfPrimesOfAll.j2 kj23 a1 a2 a3 t207 bt215.1 bt223.1 bt223.2 true) else ((laws_gSame.f kj23 t207 bt211.1).bind fun t231 => (if t231 = true then (if (bt215.2 != bt219.2) = true then (laws_FnSumsOfPrimesOfAll.j2 kj23 a1 a2 a3 t207 bt215.1 bt223.1 bt223.2 true) else ((laws_gSame.f kj23 bt215.1 bt219.1).bind fun t232 => (if t232 = true then (if (bt223.2 != bt227.2) = true then (laws_FnSumsOfPrimesOfAll.j2 kj23 a1 a2 a3 t207 bt215.1 bt223.1 bt223.2 true) else ((laws_gSame.f kj23 bt223.1 bt227.1).bind fun t233 => (if t233 = true then (laws_FnSumsOfPrimesOfAll.j2 kj23 a1 a2 a3 t207 bt215.1 bt223.1 bt223.2 (t208 != bt215.2)) else (laws_FnSumsOfPrimesOfAll.j2 kj23 a1 a2 a3 t207 bt215.1 bt223.1 bt223.2 true)))) else (laws_FnSumsOfPrimesOfAll.j2 kj23 a1 a2 a3 t207 bt215.1 bt223.1 bt223.2 true)))) else (laws_FnSumsOfPrimesOfAll.j2 kj23 a1 a2 a3 t207 bt215.1 bt223.1 bt223.2 true))))))))) = some r := H
            have A37 := Aside0.mk A370
            clear A370
            replace H := Option.bind_eq_some_iff.mp H
            obtain ⟨⟨t211, t212⟩, A380, H⟩ := H
            replace H : ((impl_CrossersUpTo.f kj23 a1).bind fun bt215 => ((spec_CrossersUpTo.f kj23 a1).bind fun bt219 => ((impl_SmoothUpTo.f kj23 a2 a3).bind fun bt223 => ((spec_SmoothUpTo.f kj23 a2 a3).bind fun bt227 => (if (t208 != t212) = true then (laws_FnSumsOfPrimesOfAll.j2 kj23 a1 a2 a3 t207 bt215.1 bt223.1 bt223.2 true) else ((laws_gSame.f kj23 t207 t211).bind fun t231 => (if t231 = true then (if (bt215.2 != bt219.2) = true then (laws_FnSumsOfPrimesOfAll.j2 kj23 a1 a2 a3 t207 bt215.1 bt223.1 bt223.2 true) else ((laws_gSame.f kj23 bt215.1 bt219.1).bind fun t232 => (if t232 = true then (if (bt223.2 != bt227.2) = true then (laws_FnSumsOfPrimesOfAll.j2 kj23 a1 a2 a3 t207 bt215.1 bt223.1 bt223.2 true) else ((laws_gSame.f kj23 bt223.1 bt227.1).bind fun t233 => (if t233 = true then (laws_FnSumsOfPrimesOfAll.j2 kj23 a1 a2 a3 t207 bt215.1 bt223.1 bt223.2 (t208 != bt215.2)) else (laws_FnSumsOfPrimesOfAll.j2 kj23 a1 a2 a3 t207 bt215.1 bt223.1 bt223.2 true)))) else (laws_FnSumsOfPrimesOfAll.j2 kj23 a1 a2 a3 t207 bt215.1 bt223.1 bt223.2 true)))) else (laws_FnSumsOfPrimesOfAll.j2 kj23 a1 a2 a3 t207 bt215.1 bt223.1 bt223.2 true)))))))) = some r := H
            have A38 := Aside0.mk A380
            clear A380
            replace H := Option.bind_eq_some_iff.mp H
            obtain ⟨⟨t215, t216⟩, A390, H⟩ := H
            replace H : ((spec_CrossersUpTo.f kj23 a1).bind fun bt219 => ((impl_SmoothUpTo.f kj23 a2 a3).bind fun bt223 => ((spec_SmoothUpTo.f kj23 a2 a3).bind fun bt227 => (if (t208 != t212) = true then (laws_FnSumsOfPrimesOfAll.j2 kj23 a1 a2 a3 t207 t215 bt223.1 bt223.2 true) else ((laws_gSame.f kj23 t207 t211).bind fun t231 => (if t231 = true then (if (t216 != bt219.2) = true then (laws_FnSumsOfPrimesOfAll.j2 kj23 a1 a2 a3 t207 t215 bt223.1 bt223.2 true) else ((laws_gSame.f kj23 t215 bt219.1).bind fun t232 => (if t232 = true then (if (bt223.2 != bt227.2) = true then (laws_FnSumsOfPrimesOfAll.j2 kj23 a1 a2 a3 t207 t215 bt223.1 bt223.2 true) else ((laws_gSame.f kj23 bt223.1 bt227.1).bind fun t233 => (if t233 = true then (laws_FnSumsOfPrimesOfAll.j2 kj23 a1 a2 a3 t207 t215 bt223.1 bt223.2 (t208 != t216)) else (laws_FnSumsOfPrimesOfAll.j2 kj23 a1 a2 a3 t207 t215 bt223.1 bt223.2 true)))) else (laws_FnSumsOfPrimesOfAll.j2 kj23 a1 a2 a3 t207 t215 bt223.1 bt223.2 true)))) else (laws_FnSumsOfPrimesOfAll.j2 kj23 a1 a2 a3 t207 t215 bt223.1 bt223.2 true))))))) = some r := H
            have A39 := Aside0.mk A390
            clear A390
            replace H := Option.bind_eq_some_iff.mp H
            obtain ⟨⟨t219, t220⟩, A400, H⟩ := H
            replace H : ((impl_SmoothUpTo.f kj23 a2 a3).bind fun bt223 => ((spec_SmoothUpTo.f kj23 a2 a3).bind fun bt227 => (if (t208 != t212) = true then (laws_FnSumsOfPrimesOfAll.j2 kj23 a1 a2 a3 t207 t215 bt223.1 bt223.2 true) else ((laws_gSame.f kj23 t207 t211).bind fun t231 => (if t231 = true then (if (t216 != t220) = true then (laws_FnSumsOfPrimesOfAll.j2 kj23 a1 a2 a3 t207 t215 bt223.1 bt223.2 true) else ((laws_gSame.f kj23 t215 t219).bind fun t232 => (if t232 = true then (if (bt223.2 != bt227.2) = true then (laws_FnSumsOfPrimesOfAll.j2 kj23 a1 a2 a3 t207 t215 bt223.1 bt223.2 true) else ((laws_gSame.f kj23 bt223.1 bt227.1).bind fun t233 => (if t233 = true then (laws_FnSumsOfPrimesOfAll.j2 kj23 a1 a2 a3 t207 t215 bt223.1 bt223.2 (t208 != t216)) else (laws_FnSumsOfPrimesOfAll.j2 kj23 a1 a2 a3 t207 t215 bt223.1 bt223.2 true)))) else (laws_FnSumsOfPrimesOfAll.j2 kj23 a1 a2 a3 t207 t215 bt223.1 bt223.2 true)))) else (laws_FnSumsOfPrimesOfAll.j2 kj23 a1 a2 a3 t207 t215 bt223.1 bt223.2 true)))))) = some r := H
            have A40 := Aside0.mk A400
            clear A400
            replace H := Option.bind_eq_some_iff.mp H
            obtain ⟨⟨t223, t224⟩, A410, H⟩ := H
            replace H : ((spec_SmoothUpTo.f kj23 a2 a3).bind fun bt227 => (if (t208 != t212) = true then (laws_FnSumsOfPrimesOfAll.j2 kj23 a1 a2 a3 t207 t215 t223 t224 true) else ((laws_gSame.f kj23 t207 t211).bind fun t231 => (if t231 = true then (if (t216 != t220) = true then (laws_FnSumsOfPrimesOfAll.j2 kj23 a1 a2 a3 t207 t215 t223 t224 true) else ((laws_gSame.f kj23 t215 t219).bind fun t232 => (if t232 = true then (if (t224 != bt227.2) = true then (laws_FnSumsOfPrimesOfAll.j2 kj23 a1 a2 a3 t207 t215 t223 t224 true) else ((laws_gSame.f kj23 t223 bt227.1).bind fun t233 => (if t233 = true then (laws_FnSumsOfPrimesOfAll.j2 kj23 a1 a2 a3 t207 t215 t223 t224 (t208 != t216)) else (laws_FnSumsOfPrimesOfAll.j2 kj23 a1 a2 a3 t207 t215 t223 t224 true)))) else (laws_FnSumsOfPrimesOfAll.j2 kj23 a1 a2 a3 t207 t215 t223 t224 true)))) else (laws_FnSumsOfPrimesOfAll.j2 kj23 a1 a2 a3 t207 t215 t223 t224 true))))) = some r := H
            have A41 := Aside0.mk A410
            clear A410
            replace H := Option.bind_eq_some_iff.mp H
            obtain ⟨⟨t227, t228⟩, A420, H⟩ := H
            replace H : (if (t208 != t212) = true then (laws_FnSumsOfPrimesOfAll.j2 kj23 a1 a2 a3 t207 t215 t223 t224 true) else ((laws_gSame.f kj23 t207 t211).bind fun t231 => (if t231 = true then (if (t216 != t220) = true then (laws_FnSumsOfPrimesOfAll.j2 kj23 a1 a2 a3 t207 t215 t223 t224 true) else ((laws_gSame.f kj23 t215 t219).bind fun t232 => (if t232 = true then (if (t224 != t228) = true then (laws_FnSumsOfPrimesOfAll.j2 kj23 a1 a2 a3 t207 t215 t223 t224 true) else ((laws_gSame.f kj23 t223 t227).bind fun t233 => (if t233 = true then (laws_FnSumsOfPrimesOfAll.j2 kj23 a1 a2 a3 t207 t215 t223 t224 (t208 != t216)) else (laws_FnSumsOfPrimesOfAll.j2 kj23 a1 a2 a3 t207 t215 t223 t224 true)))) else (laws_FnSumsOfPrimesOfAll.j2 kj23 a1 a2 a3 t207 t215 t223 t224 true)))) else (laws_FnSumsOfPrimesOfAll.j2 kj23 a1 a2 a3 t207 t215 t223 t224 true)))) = some r := H
            have A42 := Aside0.mk A420
            clear A420
            have HC43 := Aside0.mk H
            clear H
            go_upto_region 18 with (first | ((with_reducible refine gate_callee (f := 13) rfl ?_); refine goesL_ (some 166) rfl rfl Try.func13 (by kernel_rfl) rfl #[.int .i64 a1] rfl (by (try simp only [List.map_toArray, List.map_cons, List.map_nil]); first | done | rfl | (simp only [List.length_drop, List.length_take]; rfl)) ?_; (with_reducible refine (impl_TwinsUpTo.calls kj23 a1 t207 t208 _ A37.out).mono ?_); rintro e w44 ⟨v209, rfl, ho0, hb⟩; refine ⟨_, rfl, ?_⟩; have n0_ := Aside0.mk (Kd.R_lower ho0 (below_size (by repeat (first | (with_reducible first | exact HB.out | apply below_alloc | apply pw_below_drewN | apply below_drew1) | exact HB.out)))); have n1_ := Aside0.mk (below_step (by repeat (first | (with_reducible first | exact HB.out | apply below_alloc | apply pw_below_drewN | apply below_drew1) | exact HB.out)) hb); clear HB; have HO210 := n0_; have HB := n1_; clear n0_ n1_; (try clear hb); (try clear hb2); (try clear hk); (try clear hi); (try clear ho0)) | ((with_reducible refine gate_callee (f := 14) rfl ?_); refine goesL_ (some 171) rfl rfl Try.func14 (by kernel_rfl) rfl #[.int .i64 a1] rfl (by (try simp only [List.map_toArray, List.map_cons, List.map_nil]); first | done | rfl | (simp only [List.length_drop, List.length_take]; rfl)) ?_; (with_reducible refine (spec_TwinsUpTo.calls kj23 a1 t211 t212 _ A38.out).mono ?_); rintro e w45 ⟨v213, rfl, ho0, hb⟩; refine ⟨_, rfl, ?_⟩; have n0_ := Aside0.mk (Kd.R_elder' (by (with_reducible repeat (first | apply Kd.R_alloc | apply Kd.R_drewN | apply Kd.R_drew)); exact HO210.out) (Kd.R_base ho0) hb); have n1_ := Aside0.mk (Kd.R_lower (Kd.R_new' ho0 (Kd.R_lt (by (with_reducible repeat (first | apply Kd.R_alloc | apply Kd.R_drewN | apply Kd.R_drew)); exact HO210.out))) (below_size (by repeat (first | (with_reducible first | exact HB.out | apply below_alloc | apply pw_below_drewN | apply below_drew1) | exact HB.out)))); have n2_ := Aside0.mk (below_step (by repeat (first | (with_reducible first | exact HB.out | apply below_alloc | apply pw_below_drewN | apply below_drew1) | exact HB.out)) hb); clear HO210; clear HB; have HO210 := n0_; have HO214 := n1_; have HB := n2_; clear n0_ n1_ n2_; (try clear hb); (try clear hb2); (try clear hk); (try clear hi); (try clear ho0)) | ((with_reducible refine gate_callee (f := 15) rfl ?_); refine goesL_ (some 176) rfl rfl Try.func15 (by kernel_rfl) rfl #[.int .i64 a1] rfl (by (try simp only [List.map_toArray, List.map_cons, List.map_nil]); first | done | rfl | (simp only [List.length_drop, List.length_take]; rfl)) ?_; (with_reducible refine (impl_CrossersUpTo.calls kj23 a1 t215 t216 _ A39.out).mono ?_); rintro e w46 ⟨v217, rfl, ho0, hb⟩; refine ⟨_, rfl, ?_⟩; have n0_ := Aside0.mk (Kd.R_elder' (by (with_reducible repeat (first | apply Kd.R_alloc | apply Kd.R_drewN | apply Kd.R_drew)); exact HO210.out) (Kd.R_base ho0) hb); have n1_ := Aside0.mk (Kd.R_elder' (by (with_reducible repeat (first | apply Kd.R_alloc | apply Kd.R_drewN | apply Kd.R_drew)); exact HO214.out) (Kd.R_base ho0) hb); have n2_ := Aside0.mk (Kd.R_lower (Kd.R_new' (Kd.R_new' ho0 (Kd.R_lt (by (with_reducible repeat (first | apply Kd.R_alloc | apply Kd.R_drewN | apply Kd.R_drew)); exact HO210.out))) (Kd.R_lt (by (with_reducible repeat (first | apply Kd.R_alloc | apply Kd.R_drewN | apply Kd.R_drew)); exact HO214.out))) (below_size (by repeat (first | (with_reducible first | exact HB.out | apply below_alloc | apply pw_below_drewN | apply below_drew1) | exact HB.out)))); have n3_ := Aside0.mk (below_step (by repeat (first | (with_reducible first | exact HB.out | apply below_alloc | apply pw_below_drewN | apply below_drew1) | exact HB.out)) hb); clear HO210; clear HO214; clear HB; have HO210 := n0_; have HO214 := n1_; have HO218 := n2_; have HB := n3_; clear n0_ n1_ n2_ n3_; (try clear hb); (try clear hb2); (try clear hk); (try clear hi); (try clear ho0)) | ((with_reducible refine gate_callee (f := 16) rfl ?_); refine goesL_ (some 181) rfl rfl Try.func16 (by kernel_rfl) rfl #[.int .i64 a1] rfl (by (try simp only [List.map_toArray, List.map_cons, List.map_nil]); first | done | rfl | (simp only [List.length_drop, List.length_take]; rfl)) ?_; (with_reducible refine (spec_CrossersUpTo.calls kj23 a1 t219 t220 _ A40.out).mono ?_); rintro e w47 ⟨v221, rfl, ho0, hb⟩; refine ⟨_, rfl, ?_⟩; have n0_ := Aside0.mk (Kd.R_elder' (by (with_reducible repeat (first | apply Kd.R_alloc | apply Kd.R_drewN | apply Kd.R_drew)); exact HO210.out) (Kd.R_base ho0) hb); have n1_ := Aside0.mk (Kd.R_elder' (by (with_reducible repeat (first | apply Kd.R_alloc | apply Kd.R_drewN | apply Kd.R_drew)); exact HO214.out) (Kd.R_base ho0) hb); have n2_ := Aside0.mk (Kd.R_elder' (by (with_reducible repeat (first | apply Kd.R_alloc | apply Kd.R_drewN | apply Kd.R_drew)); exact HO218.out) (Kd.R_base ho0) hb); have n3_ := Aside0.mk (Kd.R_lower (Kd.R_new' (Kd.R_new' (Kd.R_new' ho0 (Kd.R_lt (by (with_reducible repeat (first | apply Kd.R_alloc | apply Kd.R_drewN | apply Kd.R_drew)); exact HO210.out))) (Kd.R_lt (by (with_reducible repeat (first | apply Kd.R_alloc | apply Kd.R_drewN | apply Kd.R_drew)); exact HO214.out))) (Kd.R_lt (by (with_reducible repeat (first | apply Kd.R_alloc | apply Kd.R_drewN | apply Kd.R_drew)); exact HO218.out))) (below_size (by repeat (first | (with_reducible first | exact HB.out | apply below_alloc | apply pw_below_drewN | apply below_drew1) | exact HB.out)))); have n4_ := Aside0.mk (below_step (by repeat (first | (with_reducible first | exact HB.out | apply below_alloc | apply pw_below_drewN | apply below_drew1) | exact HB.out)) hb); clear HO210; clear HO214; clear HO218; clear HB; have HO210 := n0_; have HO214 := n1_; have HO218 := n2_; have HO222 := n3_; have HB := n4_; clear n0_ n1_ n2_ n3_ n4_; (try clear hb); (try clear hb2); (try clear hk); (try clear hi); (try clear ho0)) | ((with_reducible refine gate_callee (f := 17) rfl ?_); refine goesL_ (some 187) rfl rfl Try.func17 (by kernel_rfl) rfl #[.int .i64 a2, .int .i64 a3] rfl (by (try simp only [List.map_toArray, List.map_cons, List.map_nil]); first | done | rfl | (simp only [List.length_drop, List.length_take]; rfl)) ?_; (with_reducible refine (impl_SmoothUpTo.calls kj23 a2 a3 t223 t224 _ A41.out).mono ?_); rintro e w48 ⟨v225, rfl, ho0, hb⟩; refine ⟨_, rfl, ?_⟩; have n0_ := Aside0.mk (Kd.R_elder' (by (with_reducible repeat (first | apply Kd.R_alloc | apply Kd.R_drewN | apply Kd.R_drew)); exact HO210.out) (Kd.R_base ho0) hb); have n1_ := Aside0.mk (Kd.R_elder' (by (with_reducible repeat (first | apply Kd.R_alloc | apply Kd.R_drewN | apply Kd.R_drew)); exact HO214.out) (Kd.R_base ho0) hb); have n2_ := Aside0.mk (Kd.R_elder' (by (with_reducible repeat (first | apply Kd.R_alloc | apply Kd.R_drewN | apply Kd.R_drew)); exact HO218.out) (Kd.R_base ho0) hb); have n3_ := Aside0.mk (Kd.R_elder' (by (with_reducible repeat (first | apply Kd.R_alloc | apply Kd.R_drewN | apply Kd.R_drew)); exact HO222.out) (Kd.R_base ho0) hb); have n4_ := Aside0.mk (Kd.R_lower (Kd.R_new' (Kd.R_new' (Kd.R_new' (Kd.R_new' ho0 (Kd.R_lt (by (with_reducible repeat (first | apply Kd.R_alloc | apply Kd.R_drewN | apply Kd.R_drew)); exact HO210.out))) (Kd.R_lt (by (with_reducible repeat (first | apply Kd.R_alloc | apply Kd.R_drewN | apply Kd.R_drew)); exact HO214.out))) (Kd.R_lt (by (with_reducible repeat (first | apply Kd.R_alloc | apply Kd.R_drewN | apply Kd.R_drew)); exact HO218.out))) (Kd.R_lt (by (with_reducible repeat (first | apply Kd.R_alloc | apply Kd.R_drewN | apply Kd.R_drew)); exact HO222.out))) (below_size (by repeat (first | (with_reducible first | exact HB.out | apply below_alloc | apply pw_below_drewN | apply below_drew1) | exact HB.out)))); have n5_ := Aside0.mk (below_step (by repeat (first | (with_reducible first | exact HB.out | apply below_alloc | apply pw_below_drewN | apply below_drew1) | exact HB.out)) hb); clear HO210; clear HO214; clear HO218; clear HO222; clear HB; have HO210 := n0_; have HO214 := n1_; have HO218 := n2_; have HO222 := n3_; have HO226 := n4_; have HB := n5_; clear n0_ n1_ n2_ n3_ n4_ n5_; (try clear hb); (try clear hb2); (try clear hk); (try clear hi); (try clear ho0)) | ((with_reducible refine gate_callee (f := 18) rfl ?_); refine goesL_ (some 193) rfl rfl Try.func18 (by kernel_rfl) rfl #[.int .i64 a2, .int .i64 a3] rfl (by (try simp only [List.map_toArray, List.map_cons, List.map_nil]); first | done | rfl | (simp only [List.length_drop, List.length_take]; rfl)) ?_; (with_reducible refine (spec_SmoothUpTo.calls kj23 a2 a3 t227 t228 _ A42.out).mono ?_); rintro e w49 ⟨v229, rfl, ho0, hb⟩; refine ⟨_, rfl, ?_⟩; have n0_ := Aside0.mk (Kd.R_elder' (by (with_reducible repeat (first | apply Kd.R_alloc | apply Kd.R_drewN | apply Kd.R_drew)); exact HO210.out) (Kd.R_base ho0) hb); have n1_ := Aside0.mk (Kd.R_elder' (by (with_reducible repeat (first | apply Kd.R_alloc | apply Kd.R_drewN | apply Kd.R_drew)); exact HO214.out) (Kd.R_base ho0) hb); have n2_ := Aside0.mk (Kd.R_elder' (by (with_reducible repeat (first | apply Kd.R_alloc | apply Kd.R_drewN | apply Kd.R_drew)); exact HO218.out) (Kd.R_base ho0) hb); have n3_ := Aside0.mk (Kd.R_elder' (by (with_reducible repeat (first | apply Kd.R_alloc | apply Kd.R_drewN | apply Kd.R_drew)); exact HO222.out) (Kd.R_base ho0) hb); have n4_ := Aside0.mk (Kd.R_elder' (by (with_reducible repeat (first | apply Kd.R_alloc | apply Kd.R_drewN | apply Kd.R_drew)); exact HO226.out) (Kd.R_base ho0) hb); have n5_ := Aside0.mk (Kd.R_lower (Kd.R_new' (Kd.R_new' (Kd.R_new' (Kd.R_new' (Kd.R_new' ho0 (Kd.R_lt (by (with_reducible repeat (first | apply Kd.R_alloc | apply Kd.R_drewN | apply Kd.R_drew)); exact HO210.out))) (Kd.R_lt (by (with_reducible repeat (first | apply Kd.R_alloc | apply Kd.R_drewN | apply Kd.R_drew)); exact HO214.out))) (Kd.R_lt (by (with_reducible repeat (first | apply Kd.R_alloc | apply Kd.R_drewN | apply Kd.R_drew)); exact HO218.out))) (Kd.R_lt (by (with_reducible repeat (first | apply Kd.R_alloc | apply Kd.R_drewN | apply Kd.R_drew)); exact HO222.out))) (Kd.R_lt (by (with_reducible repeat (first | apply Kd.R_alloc | apply Kd.R_drewN | apply Kd.R_drew)); exact HO226.out))) (below_size (by repeat (first | (with_reducible first | exact HB.out | apply below_alloc | apply pw_below_drewN | apply below_drew1) | exact HB.out)))); have n6_ := Aside0.mk (below_step (by repeat (first | (with_reducible first | exact HB.out | apply below_alloc | apply pw_below_drewN | apply below_drew1) | exact HB.out)) hb); clear HO210; clear HO214; clear HO218; clear HO222; clear HO226; clear HB; have HO210 := n0_; have HO214 := n1_; have HO218 := n2_; have HO222 := n3_; have HO226 := n4_; have HO230 := n5_; have HB := n6_; clear n0_ n1_ n2_ n3_ n4_ n5_ n6_; (try clear hb); (try clear hb2); (try clear hk); (try clear hi); (try clear ho0)))
            (try simp only [Act.put, List.setIfInBounds_toArray, List.set_cons_zero, List.set_cons_succ])
            go_cut [231] (fun v231 wc => ∃ (kq : Nat) (x231_42 : Bool), v231 = .bool x231_42 ∧ Aside0 (laws_FnSumsOfPrimesOfAll.j2 kq a1 a2 a3 t207 t215 t223 t224 x231_42 = some r) ∧ Aside0 (kq ≤ kj23) ∧ Aside0 (Kd.R (Kd.int .i64) 3 wc w.heap.size (fun k_ => some k_ ≠ (v217 : Value).ownBlock ∧ some k_ ≠ (v225 : Value).ownBlock) v209 t207) ∧ Aside0 (Kd.R (Kd.int .i64) 3 wc w.heap.size (fun k_ => some k_ ≠ (v209 : Value).ownBlock ∧ some k_ ≠ (v225 : Value).ownBlock) v217 t215) ∧ Aside0 (Kd.R (Kd.int .i64) 3 wc w.heap.size (fun k_ => some k_ ≠ (v209 : Value).ownBlock ∧ some k_ ≠ (v217 : Value).ownBlock) v225 t223) ∧ Aside0 (Below w.heap.size w wc))
            case first =>
              as_aux_lemma =>
              have H := HC43.out
              clear HC43
              by_cases c50 : (t208 != t212) = true
              · as_aux_lemma =>
                rw [if_pos c50] at H
                have c50b0 : (t208 != t212) = true := c50
                (try (have c50b1 : decide (t208 = t212) = false := by simpa using c50))
                (try (have c50b2 : (t208 == t212) = false := by simpa using c50))
                (try (have c50b3 : ¬ (t208 = t212) := by simpa using c50))
                clear c50
                (first | rw [c50b0] | (simp only [i64_w, i32_w]; rw [c50b0]) | skip)
                have H' := Aside0.mk H
                clear H
                go_wp2
                go_meet
                case rel => exact ⟨_, (true), (by first | rfl | (simp; done) | (simp [*]; done)), H', ⟨by have := HJ8.out; have := HJ23.out; first | omega | exact Nat.le_refl _⟩, ⟨by (with_reducible repeat (first | apply Kd.R_alloc | apply Kd.R_drewN | apply Kd.R_drew)); exact Kd.R_mono HO210.out (fun _ hk => ⟨hk.1.1.1.2, hk.1.2⟩)⟩, ⟨by (with_reducible repeat (first | apply Kd.R_alloc | apply Kd.R_drewN | apply Kd.R_drew)); exact Kd.R_mono HO218.out (fun _ hk => ⟨hk.1.1.1.1.2, hk.1.2⟩)⟩, ⟨by (with_reducible repeat (first | apply Kd.R_alloc | apply Kd.R_drewN | apply Kd.R_drew)); exact Kd.R_mono HO226.out (fun _ hk => ⟨hk.1.1.1.1.2, hk.1.1.2⟩)⟩, ⟨by repeat (first | (with_reducible first | exact HB.out | apply below_alloc | apply pw_below_drewN | apply below_drew1) | exact HB.out)⟩⟩
              · as_aux_lemma =>
                rw [if_neg c50] at H
                have c50b0 : (t208 != t212) = false := by simpa using c50
                (try (have c50b1 : decide (t208 = t212) = true := by simpa using c50))
                (try (have c50b2 : (t208 == t212) = true := by simpa using c50))
                clear c50
                (first | rw [c50b0] | (simp only [i64_w, i32_w]; rw [c50b0]) | skip)
                replace H := Option.bind_eq_some_iff.mp H
                obtain ⟨t231, A510, H⟩ := H
                replace H : (if t231 = true then (if (t216 != t220) = true then (laws_FnSumsOfPrimesOfAll.j2 kj23 a1 a2 a3 t207 t215 t223 t224 true) else ((laws_gSame.f kj23 t215 t219).bind fun t232 => (if t232 = true then (if (t224 != t228) = true then (laws_FnSumsOfPrimesOfAll.j2 kj23 a1 a2 a3 t207 t215 t223 t224 true) else ((laws_gSame.f kj23 t223 t227).bind fun t233 => (if t233 = true then (laws_FnSumsOfPrimesOfAll.j2 kj23 a1 a2 a3 t207 t215 t223 t224 (t208 != t216)) else (laws_FnSumsOfPrimesOfAll.j2 kj23 a1 a2 a3 t207 t215 t223 t224 true)))) else (laws_FnSumsOfPrimesOfAll.j2 kj23 a1 a2 a3 t207 t215 t223 t224 true)))) else (laws_FnSumsOfPrimesOfAll.j2 kj23 a1 a2 a3 t207 t215 t223 t224 true)) = some r := H
                have A51 := Aside0.mk A510
                clear A510
                by_cases c52 : t231 = true
                · subst c52
                  have H1 : (if (t216 != t220) = true then (laws_FnSumsOfPrimesOfAll.j2 kj23 a1 a2 a3 t207 t215 t223 t224 true) else ((laws_gSame.f kj23 t215 t219).bind fun t232 => (if t232 = true then (if (t224 != t228) = true then (laws_FnSumsOfPrimesOfAll.j2 kj23 a1 a2 a3 t207 t215 t223 t224 true) else ((laws_gSame.f kj23 t223 t227).bind fun t233 => (if t233 = true then (laws_FnSumsOfPrimesOfAll.j2 kj23 a1 a2 a3 t207 t215 t223 t224 (t208 != t216)) else (laws_FnSumsOfPrimesOfAll.j2 kj23 a1 a2 a3 t207 t215 t223 t224 true)))) else (laws_FnSumsOfPrimesOfAll.j2 kj23 a1 a2 a3 t207 t215 t223 t224 true)))) = some r := by rw [if_pos rfl] at H; exact H
                  clear H
                  have H := H1
                  clear H1
                  by_cases c53 : (t216 != t220) = true
                  · as_aux_lemma =>
                    rw [if_pos c53] at H
                    have c53b0 : (t216 != t220) = true := c53
                    (try (have c53b1 : decide (t216 = t220) = false := by simpa using c53))
                    (try (have c53b2 : (t216 == t220) = false := by simpa using c53))
                    (try (have c53b3 : ¬ (t216 = t220) := by simpa using c53))
                    clear c53
                    have H' := Aside0.mk H
                    clear H
                    obtain ⟨Ao54, co54, eo54⟩ := Kd.R_slice HO210.out
                    subst eo54
                    obtain ⟨Ao55, co55, eo55⟩ := Kd.R_slice HO214.out
                    subst eo55
                    go_wp2_with (first | (go_at_call 19; (with_reducible refine (laws_gSame.calls kj23 _ _ t207 _ _ t211 true _ ?side1 ?side2 ?side3 ?side4 A51.out).mono ?_); (case side1 => repeat (first | exact (Kd.R_reads' HO210.out).2.2 | (with_reducible refine Kd.C_alloc ?_ _) | (with_reducible refine Kd.C_drewN ?_ _) | (with_reducible refine Kd.C_drew ?_))); (case side2 => exact (Kd.R_reads' HO210.out).2.1); (case side3 => repeat (first | exact (Kd.R_reads' HO214.out).2.2 | (with_reducible refine Kd.C_alloc ?_ _) | (with_reducible refine Kd.C_drewN ?_ _) | (with_reducible refine Kd.C_drew ?_))); (case side4 => exact (Kd.R_reads' HO214.out).2.1); rintro e w' ⟨rfl, ⟨nd, rfl⟩⟩))
                    go_meet
                    case rel => exact ⟨_, (true), (by first | rfl | (simp; done) | (simp [*]; done)), H', ⟨by have := HJ8.out; have := HJ23.out; first | omega | exact Nat.le_refl _⟩, ⟨by (with_reducible repeat (first | apply Kd.R_alloc | apply Kd.R_drewN | apply Kd.R_drew)); exact Kd.R_mono HO210.out (fun _ hk => ⟨hk.1.1.1.2, hk.1.2⟩)⟩, ⟨by (with_reducible repeat (first | apply Kd.R_alloc | apply Kd.R_drewN | apply Kd.R_drew)); exact Kd.R_mono HO218.out (fun _ hk => ⟨hk.1.1.1.1.2, hk.1.2⟩)⟩, ⟨by (with_reducible repeat (first | apply Kd.R_alloc | apply Kd.R_drewN | apply Kd.R_drew)); exact Kd.R_mono HO226.out (fun _ hk => ⟨hk.1.1.1.1.2, hk.1.1.2⟩)⟩, ⟨by repeat (first | (with_reducible first | exact HB.out | apply below_alloc | apply pw_below_drewN | apply below_drew1) | exact HB.out)⟩⟩
                  · as_aux_lemma =>
                    rw [if_neg c53] at H
                    have c53b0 : (t216 != t220) = false := by simpa using c53
                    (try (have c53b1 : decide (t216 = t220) = true := by simpa using c53))
                    (try (have c53b2 : (t216 == t220) = true := by simpa using c53))
                    clear c53
                    replace H := Option.bind_eq_some_iff.mp H
                    obtain ⟨t232, A560, H⟩ := H
                    replace H : (if t232 = true then (if (t224 != t228) = true then (laws_FnSumsOfPrimesOfAll.j2 kj23 a1 a2 a3 t207 t215 t223 t224 true) else ((laws_gSame.f kj23 t223 t227).bind fun t233 => (if t233 = true then (laws_FnSumsOfPrimesOfAll.j2 kj23 a1 a2 a3 t207 t215 t223 t224 (t208 != t216)) else (laws_FnSumsOfPrimesOfAll.j2 kj23 a1 a2 a3 t207 t215 t223 t224 true)))) else (laws_FnSumsOfPrimesOfAll.j2 kj23 a1 a2 a3 t207 t215 t223 t224 true)) = some r := H
                    have A56 := Aside0.mk A560
                    clear A560
                    by_cases c57 : t232 = true
                    · subst c57
                      have H1 : (if (t224 != t228) = true then (laws_FnSumsOfPrimesOfAll.j2 kj23 a1 a2 a3 t207 t215 t223 t224 true) else ((laws_gSame.f kj23 t223 t227).bind fun t233 => (if t233 = true then (laws_FnSumsOfPrimesOfAll.j2 kj23 a1 a2 a3 t207 t215 t223 t224 (t208 != t216)) else (laws_FnSumsOfPrimesOfAll.j2 kj23 a1 a2 a3 t207 t215 t223 t224 true)))) = some r := by rw [if_pos rfl] at H; exact H
                      clear H
                      have H := H1
                      clear H1
                      by_cases c58 : (t224 != t228) = true
                      · as_aux_lemma =>
                        rw [if_pos c58] at H
                        have c58b0 : (t224 != t228) = true := c58
                        (try (have c58b1 : decide (t224 = t228) = false := by simpa using c58))
                        (try (have c58b2 : (t224 == t228) = false := by simpa using c58))
                        (try (have c58b3 : ¬ (t224 = t228) := by simpa using c58))
                        clear c58
                        have H' := Aside0.mk H
                        clear H
                        obtain ⟨Ao59, co59, eo59⟩ := Kd.R_slice HO210.out
                        subst eo59
                        obtain ⟨Ao60, co60, eo60⟩ := Kd.R_slice HO214.out
                        subst eo60
                        go_wp2_with (first | (go_at_call 19; (with_reducible refine (laws_gSame.calls kj23 _ _ t207 _ _ t211 true _ ?side1 ?side2 ?side3 ?side4 A51.out).mono ?_); (case side1 => repeat (first | exact (Kd.R_reads' HO210.out).2.2 | (with_reducible refine Kd.C_alloc ?_ _) | (with_reducible refine Kd.C_drewN ?_ _) | (with_reducible refine Kd.C_drew ?_))); (case side2 => exact (Kd.R_reads' HO210.out).2.1); (case side3 => repeat (first | exact (Kd.R_reads' HO214.out).2.2 | (with_reducible refine Kd.C_alloc ?_ _) | (with_reducible refine Kd.C_drewN ?_ _) | (with_reducible refine Kd.C_drew ?_))); (case side4 => exact (Kd.R_reads' HO214.out).2.1); rintro e w' ⟨rfl, ⟨nd, rfl⟩⟩; obtain ⟨Ao61, co61, eo61⟩ := Kd.R_slice HO218.out; subst eo61; obtain ⟨Ao62, co62, eo62⟩ := Kd.R_slice HO222.out; subst eo62) | (go_at_call 19; (with_reducible refine (laws_gSame.calls kj23 _ _ t215 _ _ t219 true _ ?side1 ?side2 ?side3 ?side4 A56.out).mono ?_); (case side1 => repeat (first | exact (Kd.R_reads' HO218.out).2.2 | (with_reducible refine Kd.C_alloc ?_ _) | (with_reducible refine Kd.C_drewN ?_ _) | (with_reducible refine Kd.C_drew ?_))); (case side2 => exact (Kd.R_reads' HO218.out).2.1); (case side3 => repeat (first | exact (Kd.R_reads' HO222.out).2.2 | (with_reducible refine Kd.C_alloc ?_ _) | (with_reducible refine Kd.C_drewN ?_ _) | (with_reducible refine Kd.C_drew ?_))); (case side4 => exact (Kd.R_reads' HO222.out).2.1); rintro e w' ⟨rfl, ⟨nd, rfl⟩⟩))
                        go_meet
                        case rel => exact ⟨_, (true), (by first | rfl | (simp; done) | (simp [*]; done)), H', ⟨by have := HJ8.out; have := HJ23.out; first | omega | exact Nat.le_refl _⟩, ⟨by (with_reducible repeat (first | apply Kd.R_alloc | apply Kd.R_drewN | apply Kd.R_drew)); exact Kd.R_mono HO210.out (fun _ hk => ⟨hk.1.1.1.2, hk.1.2⟩)⟩, ⟨by (with_reducible repeat (first | apply Kd.R_alloc | apply Kd.R_drewN | apply Kd.R_drew)); exact Kd.R_mono HO218.out (fun _ hk => ⟨hk.1.1.1.1.2, hk.1.2⟩)⟩, ⟨by (with_reducible repeat (first | apply Kd.R_alloc | apply Kd.R_drewN | apply Kd.R_drew)); exact Kd.R_mono HO226.out (fun _ hk => ⟨hk.1.1.1.1.2, hk.1.1.2⟩)⟩, ⟨by repeat (first | (with_reducible first | exact HB.out | apply below_alloc | apply pw_below_drewN | apply below_drew1) | exact HB.out)⟩⟩
                      · as_aux_lemma =>
                        rw [if_neg c58] at H
                        have c58b0 : (t224 != t228) = false := by simpa using c58
                        (try (have c58b1 : decide (t224 = t228) = true := by simpa using c58))
                        (try (have c58b2 : (t224 == t228) = true := by simpa using c58))
                        clear c58
                        replace H := Option.bind_eq_some_iff.mp H
                        obtain ⟨t233, A630, H⟩ := H
                        replace H : (if t233 = true then (laws_FnSumsOfPrimesOfAll.j2 kj23 a1 a2 a3 t207 t215 t223 t224 (t208 != t216)) else (laws_FnSumsOfPrimesOfAll.j2 kj23 a1 a2 a3 t207 t215 t223 t224 true)) = some r := H
                        have A63 := Aside0.mk A630
                        clear A630
                        by_cases c64 : t233 = true
                        · subst c64
                          have H1 : (laws_FnSumsOfPrimesOfAll.j2 kj23 a1 a2 a3 t207 t215 t223 t224 (t208 != t216)) = some r := by rw [if_pos rfl] at H; exact H
                          clear H
                          have H := H1
                          clear H1
                          have H' := Aside0.mk H
                          clear H
                          obtain ⟨Ao65, co65, eo65⟩ := Kd.R_slice HO210.out
                          subst eo65
                          obtain ⟨Ao66, co66, eo66⟩ := Kd.R_slice HO214.out
                          subst eo66
                          go_wp2_with (first | (go_at_call 19; (with_reducible refine (laws_gSame.calls kj23 _ _ t207 _ _ t211 true _ ?side1 ?side2 ?side3 ?side4 A51.out).mono ?_); (case side1 => repeat (first | exact (Kd.R_reads' HO210.out).2.2 | (with_reducible refine Kd.C_alloc ?_ _) | (with_reducible refine Kd.C_drewN ?_ _) | (with_reducible refine Kd.C_drew ?_))); (case side2 => exact (Kd.R_reads' HO210.out).2.1); (case side3 => repeat (first | exact (Kd.R_reads' HO214.out).2.2 | (with_reducible refine Kd.C_alloc ?_ _) | (with_reducible refine Kd.C_drewN ?_ _) | (with_reducible refine Kd.C_drew ?_))); (case side4 => exact (Kd.R_reads' HO214.out).2.1); rintro e w' ⟨rfl, ⟨nd, rfl⟩⟩; obtain ⟨Ao67, co67, eo67⟩ := Kd.R_slice HO218.out; subst eo67; obtain ⟨Ao68, co68, eo68⟩ := Kd.R_slice HO222.out; subst eo68) | (go_at_call 19; (with_reducible refine (laws_gSame.calls kj23 _ _ t215 _ _ t219 true _ ?side1 ?side2 ?side3 ?side4 A56.out).mono ?_); (case side1 => repeat (first | exact (Kd.R_reads' HO218.out).2.2 | (with_reducible refine Kd.C_alloc ?_ _) | (with_reducible refine Kd.C_drewN ?_ _) | (with_reducible refine Kd.C_drew ?_))); (case side2 => exact (Kd.R_reads' HO218.out).2.1); (case side3 => repeat (first | exact (Kd.R_reads' HO222.out).2.2 | (with_reducible refine Kd.C_alloc ?_ _) | (with_reducible refine Kd.C_drewN ?_ _) | (with_reducible refine Kd.C_drew ?_))); (case side4 => exact (Kd.R_reads' HO222.out).2.1); rintro e w' ⟨rfl, ⟨nd, rfl⟩⟩; obtain ⟨Ao69, co69, eo69⟩ := Kd.R_slice HO226.out; subst eo69; obtain ⟨Ao70, co70, eo70⟩ := Kd.R_slice HO230.out; subst eo70) | (go_at_call 19; (with_reducible refine (laws_gSame.calls kj23 _ _ t223 _ _ t227 true _ ?side1 ?side2 ?side3 ?side4 A63.out).mono ?_); (case side1 => repeat (first | exact (Kd.R_reads' HO226.out).2.2 | (with_reducible refine Kd.C_alloc ?_ _) | (with_reducible refine Kd.C_drewN ?_ _) | (with_reducible refine Kd.C_drew ?_))); (case side2 => exact (Kd.R_reads' HO226.out).2.1); (case side3 => repeat (first | exact (Kd.R_reads' HO230.out).2.2 | (with_reducible refine Kd.C_alloc ?_ _) | (with_reducible refine Kd.C_drewN ?_ _) | (with_reducible refine Kd.C_drew ?_))); (case side4 => exact (Kd.R_reads' HO230.out).2.1); rintro e w' ⟨rfl, ⟨nd, rfl⟩⟩))
                          go_meet
                          case rel => exact ⟨_, ((t208 != t216)), (by first | rfl | (simp; done) | (simp [*]; done)), H', ⟨by have := HJ8.out; have := HJ23.out; first | omega | exact Nat.le_refl _⟩, ⟨by (with_reducible repeat (first | apply Kd.R_alloc | apply Kd.R_drewN | apply Kd.R_drew)); exact Kd.R_mono HO210.out (fun _ hk => ⟨hk.1.1.1.2, hk.1.2⟩)⟩, ⟨by (with_reducible repeat (first | apply Kd.R_alloc | apply Kd.R_drewN | apply Kd.R_drew)); exact Kd.R_mono HO218.out (fun _ hk => ⟨hk.1.1.1.1.2, hk.1.2⟩)⟩, ⟨by (with_reducible repeat (first | apply Kd.R_alloc | apply Kd.R_drewN | apply Kd.R_drew)); exact Kd.R_mono HO226.out (fun _ hk => ⟨hk.1.1.1.1.2, hk.1.1.2⟩)⟩, ⟨by repeat (first | (with_reducible first | exact HB.out | apply below_alloc | apply pw_below_drewN | apply below_drew1) | exact HB.out)⟩⟩
                        · replace c64 := Bool.eq_false_iff.mpr c64
                          subst c64
                          have H1 : (laws_FnSumsOfPrimesOfAll.j2 kj23 a1 a2 a3 t207 t215 t223 t224 true) = some r := by rw [if_neg (show ¬ (false = true) by decide)] at H; exact H
                          clear H
                          have H := H1
                          clear H1
                          have H' := Aside0.mk H
                          clear H
                          obtain ⟨Ao71, co71, eo71⟩ := Kd.R_slice HO210.out
                          subst eo71
                          obtain ⟨Ao72, co72, eo72⟩ := Kd.R_slice HO214.out
                          subst eo72
                          go_wp2_with (first | (go_at_call 19; (with_reducible refine (laws_gSame.calls kj23 _ _ t207 _ _ t211 true _ ?side1 ?side2 ?side3 ?side4 A51.out).mono ?_); (case side1 => repeat (first | exact (Kd.R_reads' HO210.out).2.2 | (with_reducible refine Kd.C_alloc ?_ _) | (with_reducible refine Kd.C_drewN ?_ _) | (with_reducible refine Kd.C_drew ?_))); (case side2 => exact (Kd.R_reads' HO210.out).2.1); (case side3 => repeat (first | exact (Kd.R_reads' HO214.out).2.2 | (with_reducible refine Kd.C_alloc ?_ _) | (with_reducible refine Kd.C_drewN ?_ _) | (with_reducible refine Kd.C_drew ?_))); (case side4 => exact (Kd.R_reads' HO214.out).2.1); rintro e w' ⟨rfl, ⟨nd, rfl⟩⟩; obtain ⟨Ao73, co73, eo73⟩ := Kd.R_slice HO218.out; subst eo73; obtain ⟨Ao74, co74, eo74⟩ := Kd.R_slice HO222.out; subst eo74) | (go_at_call 19; (with_reducible refine (laws_gSame.calls kj23 _ _ t215 _ _ t219 true _ ?side1 ?side2 ?side3 ?side4 A56.out).mono ?_); (case side1 => repeat (first | exact (Kd.R_reads' HO218.out).2.2 | (with_reducible refine Kd.C_alloc ?_ _) | (with_reducible refine Kd.C_drewN ?_ _) | (with_reducible refine Kd.C_drew ?_))); (case side2 => exact (Kd.R_reads' HO218.out).2.1); (case side3 => repeat (first | exact (Kd.R_reads' HO222.out).2.2 | (with_reducible refine Kd.C_alloc ?_ _) | (with_reducible refine Kd.C_drewN ?_ _) | (with_reducible refine Kd.C_drew ?_))); (case side4 => exact (Kd.R_reads' HO222.out).2.1); rintro e w' ⟨rfl, ⟨nd, rfl⟩⟩; obtain ⟨Ao75, co75, eo75⟩ := Kd.R_slice HO226.out; subst eo75; obtain ⟨Ao76, co76, eo76⟩ := Kd.R_slice HO230.out; subst eo76) | (go_at_call 19; (with_reducible refine (laws_gSame.calls kj23 _ _ t223 _ _ t227 false _ ?side1 ?side2 ?side3 ?side4 A63.out).mono ?_); (case side1 => repeat (first | exact (Kd.R_reads' HO226.out).2.2 | (with_reducible refine Kd.C_alloc ?_ _) | (with_reducible refine Kd.C_drewN ?_ _) | (with_reducible refine Kd.C_drew ?_))); (case side2 => exact (Kd.R_reads' HO226.out).2.1); (case side3 => repeat (first | exact (Kd.R_reads' HO230.out).2.2 | (with_reducible refine Kd.C_alloc ?_ _) | (with_reducible refine Kd.C_drewN ?_ _) | (with_reducible refine Kd.C_drew ?_))); (case side4 => exact (Kd.R_reads' HO230.out).2.1); rintro e w' ⟨rfl, ⟨nd, rfl⟩⟩))
                          go_meet
                          case rel => exact ⟨_, (true), (by first | rfl | (simp; done) | (simp [*]; done)), H', ⟨by have := HJ8.out; have := HJ23.out; first | omega | exact Nat.le_refl _⟩, ⟨by (with_reducible repeat (first | apply Kd.R_alloc | apply Kd.R_drewN | apply Kd.R_drew)); exact Kd.R_mono HO210.out (fun _ hk => ⟨hk.1.1.1.2, hk.1.2⟩)⟩, ⟨by (with_reducible repeat (first | apply Kd.R_alloc | apply Kd.R_drewN | apply Kd.R_drew)); exact Kd.R_mono HO218.out (fun _ hk => ⟨hk.1.1.1.1.2, hk.1.2⟩)⟩, ⟨by (with_reducible repeat (first | apply Kd.R_alloc | apply Kd.R_drewN | apply Kd.R_drew)); exact Kd.R_mono HO226.out (fun _ hk => ⟨hk.1.1.1.1.2, hk.1.1.2⟩)⟩, ⟨by repeat (first | (with_reducible first | exact HB.out | apply below_alloc | apply pw_below_drewN | apply below_drew1) | exact HB.out)⟩⟩
                    · replace c57 := Bool.eq_false_iff.mpr c57
                      subst c57
                      have H1 : (laws_FnSumsOfPrimesOfAll.j2 kj23 a1 a2 a3 t207 t215 t223 t224 true) = some r := by rw [if_neg (show ¬ (false = true) by decide)] at H; exact H
                      clear H
                      have H := H1
                      clear H1
                      have H' := Aside0.mk H
                      clear H
                      obtain ⟨Ao77, co77, eo77⟩ := Kd.R_slice HO210.out
                      subst eo77
                      obtain ⟨Ao78, co78, eo78⟩ := Kd.R_slice HO214.out
                      subst eo78
                      go_wp2_with (first | (go_at_call 19; (with_reducible refine (laws_gSame.calls kj23 _ _ t207 _ _ t211 true _ ?side1 ?side2 ?side3 ?side4 A51.out).mono ?_); (case side1 => repeat (first | exact (Kd.R_reads' HO210.out).2.2 | (with_reducible refine Kd.C_alloc ?_ _) | (with_reducible refine Kd.C_drewN ?_ _) | (with_reducible refine Kd.C_drew ?_))); (case side2 => exact (Kd.R_reads' HO210.out).2.1); (case side3 => repeat (first | exact (Kd.R_reads' HO214.out).2.2 | (with_reducible refine Kd.C_alloc ?_ _) | (with_reducible refine Kd.C_drewN ?_ _) | (with_reducible refine Kd.C_drew ?_))); (case side4 => exact (Kd.R_reads' HO214.out).2.1); rintro e w' ⟨rfl, ⟨nd, rfl⟩⟩; obtain ⟨Ao79, co79, eo79⟩ := Kd.R_slice HO218.out; subst eo79; obtain ⟨Ao80, co80, eo80⟩ := Kd.R_slice HO222.out; subst eo80) | (go_at_call 19; (with_reducible refine (laws_gSame.calls kj23 _ _ t215 _ _ t219 false _ ?side1 ?side2 ?side3 ?side4 A56.out).mono ?_); (case side1 => repeat (first | exact (Kd.R_reads' HO218.out).2.2 | (with_reducible refine Kd.C_alloc ?_ _) | (with_reducible refine Kd.C_drewN ?_ _) | (with_reducible refine Kd.C_drew ?_))); (case side2 => exact (Kd.R_reads' HO218.out).2.1); (case side3 => repeat (first | exact (Kd.R_reads' HO222.out).2.2 | (with_reducible refine Kd.C_alloc ?_ _) | (with_reducible refine Kd.C_drewN ?_ _) | (with_reducible refine Kd.C_drew ?_))); (case side4 => exact (Kd.R_reads' HO222.out).2.1); rintro e w' ⟨rfl, ⟨nd, rfl⟩⟩))
                      go_meet
                      case rel => exact ⟨_, (true), (by first | rfl | (simp; done) | (simp [*]; done)), H', ⟨by have := HJ8.out; have := HJ23.out; first | omega | exact Nat.le_refl _⟩, ⟨by (with_reducible repeat (first | apply Kd.R_alloc | apply Kd.R_drewN | apply Kd.R_drew)); exact Kd.R_mono HO210.out (fun _ hk => ⟨hk.1.1.1.2, hk.1.2⟩)⟩, ⟨by (with_reducible repeat (first | apply Kd.R_alloc | apply Kd.R_drewN | apply Kd.R_drew)); exact Kd.R_mono HO218.out (fun _ hk => ⟨hk.1.1.1.1.2, hk.1.2⟩)⟩, ⟨by (with_reducible repeat (first | apply Kd.R_alloc | apply Kd.R_drewN | apply Kd.R_drew)); exact Kd.R_mono HO226.out (fun _ hk => ⟨hk.1.1.1.1.2, hk.1.1.2⟩)⟩, ⟨by repeat (first | (with_reducible first | exact HB.out | apply below_alloc | apply pw_below_drewN | apply below_drew1) | exact HB.out)⟩⟩
                · replace c52 := Bool.eq_false_iff.mpr c52
                  subst c52
                  have H1 : (laws_FnSumsOfPrimesOfAll.j2 kj23 a1 a2 a3 t207 t215 t223 t224 true) = some r := by rw [if_neg (show ¬ (false = true) by decide)] at H; exact H
                  clear H
                  have H := H1
                  clear H1
                  have H' := Aside0.mk H
                  clear H
                  obtain ⟨Ao81, co81, eo81⟩ := Kd.R_slice HO210.out
                  subst eo81
                  obtain ⟨Ao82, co82, eo82⟩ := Kd.R_slice HO214.out
                  subst eo82
                  go_wp2_with (first | (go_at_call 19; (with_reducible refine (laws_gSame.calls kj23 _ _ t207 _ _ t211 false _ ?side1 ?side2 ?side3 ?side4 A51.out).mono ?_); (case side1 => repeat (first | exact (Kd.R_reads' HO210.out).2.2 | (with_reducible refine Kd.C_alloc ?_ _) | (with_reducible refine Kd.C_drewN ?_ _) | (with_reducible refine Kd.C_drew ?_))); (case side2 => exact (Kd.R_reads' HO210.out).2.1); (case side3 => repeat (first | exact (Kd.R_reads' HO214.out).2.2 | (with_reducible refine Kd.C_alloc ?_ _) | (with_reducible refine Kd.C_drewN ?_ _) | (with_reducible refine Kd.C_drew ?_))); (case side4 => exact (Kd.R_reads' HO214.out).2.1); rintro e w' ⟨rfl, ⟨nd, rfl⟩⟩))
                  go_meet
                  case rel => exact ⟨_, (true), (by first | rfl | (simp; done) | (simp [*]; done)), H', ⟨by have := HJ8.out; have := HJ23.out; first | omega | exact Nat.le_refl _⟩, ⟨by (with_reducible repeat (first | apply Kd.R_alloc | apply Kd.R_drewN | apply Kd.R_drew)); exact Kd.R_mono HO210.out (fun _ hk => ⟨hk.1.1.1.2, hk.1.2⟩)⟩, ⟨by (with_reducible repeat (first | apply Kd.R_alloc | apply Kd.R_drewN | apply Kd.R_drew)); exact Kd.R_mono HO218.out (fun _ hk => ⟨hk.1.1.1.1.2, hk.1.2⟩)⟩, ⟨by (with_reducible repeat (first | apply Kd.R_alloc | apply Kd.R_drewN | apply Kd.R_drew)); exact Kd.R_mono HO226.out (fun _ hk => ⟨hk.1.1.1.1.2, hk.1.1.2⟩)⟩, ⟨by repeat (first | (with_reducible first | exact HB.out | apply below_alloc | apply pw_below_drewN | apply below_drew1) | exact HB.out)⟩⟩
            case rest =>
              as_aux_lemma =>
              clear HC43
              try clear c1
              try clear c2
              try clear p2
              try clear c3
              try clear c5
              try clear c6
              try clear p6
              try clear c8
              try clear c9
              try clear c10
              try clear c11
              try clear c12
              try clear c13
              try clear c14
              try clear c14b0
              try clear c14b1
              try clear c14b2
              try clear c15
              try clear c15b0
              try clear c15b1
              try clear c16
              try clear c16b0
              try clear c16b1
              try clear c17
              try clear c17b0
              try clear c17b1
              try clear c17b2
              try clear c18
              try clear c18b0
              try clear c18b1
              try clear c19
              try clear c20
              try clear c20b0
              try clear c20b1
              try clear c20b2
              try clear c21
              try clear c21b0
              try clear c21b1
              try clear c22
              try clear c22b0
              try clear c22b1
              try clear c22b2
              try clear c23
              try clear c25
              try clear c28
              try clear c28b0
              try clear c28b1
              try clear c29
              try clear c29b0
              try clear c30
              try clear c31
              try clear c32
              try clear c33
              try clear c34
              try clear c34b0
              try clear c34b1
              try clear c35
              try clear c35b0
              try clear c35b1
              try clear c36
              try clear c36b0
              try clear c36b1
              try clear c50
              try clear c50b0
              try clear c50b1
              try clear c50b2
              try clear c52
              try clear c53
              try clear c53b0
              try clear c53b1
              try clear c53b2
              try clear c57
              try clear c58
              try clear c58b0
              try clear c58b1
              try clear c58b2
              try clear c64
              try clear p64
              try clear p2
              try clear p6
              obtain ⟨kq, x231_42, rfl, HA, HJ42, HO_23, HO_27, HO_31, HB⟩ := hcut
              cases kq with
              | zero => exact absurd HA.out (by simp [laws_FnSumsOfPrimesOfAll.j2])
              | succ kj42 =>
                have H := HA.out
                clear HA
                simp only [laws_FnSumsOfPrimesOfAll.j2] at H
                by_cases c83 : x231_42 = true
                · subst c83
                  have H1 : (some false) = some r := by rw [if_pos rfl] at H; exact H
                  clear H
                  have H := H1
                  clear H1
                  obtain rfl := Option.some.inj H
                  go_wp2
                  go_ret
                  exact ⟨by first | rfl | (simp [errW_none, errW_some] <;> rfl) | (simp [*, errW_none, errW_some] <;> rfl), by repeat (first | (with_reducible first | exact HB.out | apply below_alloc | apply pw_below_drewN | apply below_drew1) | exact HB.out)⟩
                · replace c83 := Bool.eq_false_iff.mpr c83
                  subst c83
                  have H1 : (laws_FnSumsOfPrimesOfAll.l0 kj42 a1 a2 a3 t207 t215 t223 t224 t207 (t207.length : Int) 0) = some r := by rw [if_neg (show ¬ (false = true) by decide)] at H; exact H
                  clear H
                  have H := H1
                  clear H1
                  have H' := Aside0.mk H
                  clear H
                  obtain ⟨Ao84, co84, eo84⟩ := Kd.R_slice HO_23.out
                  subst eo84
                  go_wp2
                  go_loopg [234] kj42 (fun kq v234 w' => ∃ (x234_4 : Int), v234 = .int .i64 x234_4 ∧ Aside0 (laws_FnSumsOfPrimesOfAll.l0 kq a1 a2 a3 t207 t215 t223 t224 t207 (t207.length : Int) x234_4 = some r) ∧ Aside0 (kq ≤ kj42) ∧ Aside0 (Kd.R (Kd.int .i64) 3 w' w.heap.size (fun k_ => some k_ ≠ (v217 : Value).ownBlock ∧ some k_ ≠ (v225 : Value).ownBlock) (.slice Ao84 t207.length co84) t207) ∧ Aside0 (Kd.R (Kd.int .i64) 3 w' w.heap.size (fun k_ => some k_ ≠ ((.slice Ao84 t207.length co84) : Value).ownBlock ∧ some k_ ≠ (v225 : Value).ownBlock ∧ some k_ ≠ ((.slice Ao84 t207.length co84) : Value).ownBlock) v217 t215) ∧ Aside0 (Kd.R (Kd.int .i64) 3 w' w.heap.size (fun k_ => some k_ ≠ ((.slice Ao84 t207.length co84) : Value).ownBlock ∧ some k_ ≠ (v217 : Value).ownBlock ∧ some k_ ≠ ((.slice Ao84 t207.length co84) : Value).ownBlock) v225 t223) ∧ Aside0 (Kd.R (Kd.int .i64) 3 w' w.heap.size (fun k_ => some k_ ≠ (v217 : Value).ownBlock ∧ some k_ ≠ (v225 : Value).ownBlock) (.slice Ao84 t207.length co84) t207) ∧ Aside0 (Below w.heap.size w w'))
                  case atStart => exact ⟨(0), (by first | rfl | (simp; done) | (simp [*]; done)), H', ⟨Nat.le_refl _⟩, ⟨by (with_reducible repeat (first | apply Kd.R_alloc | apply Kd.R_drewN | apply Kd.R_drew)); exact HO_23.out⟩, ⟨by (with_reducible repeat (first | apply Kd.R_alloc | apply Kd.R_drewN | apply Kd.R_drew)); exact Kd.R_mono HO_27.out (fun _ hk => ⟨hk.1, ⟨hk.2, hk.1⟩⟩)⟩, ⟨by (with_reducible repeat (first | apply Kd.R_alloc | apply Kd.R_drewN | apply Kd.R_drew)); exact Kd.R_mono HO_31.out (fun _ hk => ⟨hk.1, ⟨hk.2, hk.1⟩⟩)⟩, ⟨by (with_reducible repeat (first | apply Kd.R_alloc | apply Kd.R_drewN | apply Kd.R_drew)); exact HO_23.out⟩, ⟨by repeat (first | (with_reducible first | exact HB.out | apply below_alloc | apply pw_below_drewN | apply below_drew1) | exact HB.out)⟩⟩
                  case round =>
                    as_aux_lemma =>
                    clear H'
                    try clear c1
                    try clear c2
                    try clear p2
                    try clear c3
                    try clear c5
                    try clear c6
                    try clear p6
                    try clear c8
                    try clear c9
                    try clear c10
                    try clear c11
                    try clear c12
                    try clear c13
                    try clear c14
                    try clear c14b0
                    try clear c14b1
                    try clear c14b2
                    try clear c15
                    try clear c15b0
                    try clear c15b1
                    try clear c16
                    try clear c16b0
                    try clear c16b1
                    try clear c17
                    try clear c17b0
                    try clear c17b1
                    try clear c17b2
                    try clear c18
                    try clear c18b0
                    try clear c18b1
                    try clear c19
                    try clear c20
                    try clear c20b0
                    try clear c20b1
                    try clear c20b2
                    try clear c21
                    try clear c21b0
                    try clear c21b1
                    try clear c22
                    try clear c22b0
                    try clear c22b1
                    try clear c22b2
                    try clear c23
                    try clear c25
                    try clear c28
                    try clear c28b0
                    try clear c28b1
                    try clear c29
                    try clear c29b0
                    try clear c30
                    try clear c31
                    try clear c32
                    try clear c33
                    try clear c34
                    try clear c34b0
                    try clear c34b1
                    try clear c35
                    try clear c35b0
                    try clear c35b1
                    try clear c36
                    try clear c36b0
                    try clear c36b1
                    try clear c50
                    try clear c50b0
                    try clear c50b1
                    try clear c50b2
                    try clear c52
                    try clear c53
                    try clear c53b0
                    try clear c53b1
                    try clear c53b2
                    try clear c57
                    try clear c58
                    try clear c58b0
                    try clear c58b1
                    try clear c58b2
                    try clear c64
                    try clear p64
                    try clear c83
                    try clear p2
                    try clear p6
                    try clear p64
                    obtain ⟨x234_4, rfl, HA, HK4, HO_23, HO_27, HO_31, HO_232, HB⟩ := hrel
                    cases gk with
                    | zero => exact absurd HA.out (by simp [laws_FnSumsOfPrimesOfAll.l0])
                    | succ k4 =>
                      have H := HA.out
                      clear HA
                      simp only [laws_FnSumsOfPrimesOfAll.l0] at H
                      by_cases c85 : x234_4 < (t207.length : Int)
                      · as_aux_lemma =>
                        rw [if_pos c85] at H
                        have c85b0 : decide (x234_4 < (t207.length : Int)) = true := decide_eq_true c85
                        clear c85
                        by_cases c86 : 0 ≤ x234_4
                        · as_aux_lemma =>
                          rw [if_pos c86] at H
                          have c86b0 : decide (0 ≤ x234_4) = true := decide_eq_true c86
                          clear c86
                          by_cases c87 : x234_4 < (t207.length : Int)
                          · as_aux_lemma =>
                            rw [if_pos c87] at H
                            have c87b0 : decide (x234_4 < (t207.length : Int)) = true := decide_eq_true c87
                            clear c87
                            replace H := Option.bind_eq_some_iff.mp H
                            obtain ⟨⟨t235, t236⟩, A880, H⟩ := H
                            replace H : ((impl_IsPrime.f k4 (wrap64 ((rd t207 x234_4) + 2))).bind fun bt237 => (if t236 = true then (if t235 = true then (if bt237.2 = true then (if bt237.1 = true then (if (rd t207 x234_4) > a1 then (some false) else (if x234_4 > 0 then (if 0 ≤ (wrap64 (x234_4 - 1)) then (if (wrap64 (x234_4 - 1)) < (t207.length : Int) then (if (rd t207 (wrap64 (x234_4 - 1))) ≥ (rd t207 x234_4) then (some false) else (if (rd t207 x234_4) > 3 then (if (Int.tmod (rd t207 x234_4) 6) = 5 then (laws_FnSumsOfPrimesOfAll.l0 k4 a1 a2 a3 t207 t215 t223 t224 t207 (t207.length : Int) (wrap64 (x234_4 + 1))) else (some false)) else (laws_FnSumsOfPrimesOfAll.l0 k4 a1 a2 a3 t207 t215 t223 t224 t207 (t207.length : Int) (wrap64 (x234_4 + 1))))) else (none)) else (none)) else (if (rd t207 x234_4) > 3 then (if (Int.tmod (rd t207 x234_4) 6) = 5 then (laws_FnSumsOfPrimesOfAll.l0 k4 a1 a2 a3 t207 t215 t223 t224 t207 (t207.length : Int) (wrap64 (x234_4 + 1))) else (some false)) else (laws_FnSumsOfPrimesOfAll.l0 k4 a1 a2 a3 t207 t215 t223 t224 t207 (t207.length : Int) (wrap64 (x234_4 + 1)))))) else (some false)) else (some false)) else (some false)) else (some false))) = some r := H
                            have A88 := Aside0.mk A880
                            clear A880
                            replace H := Option.bind_eq_some_iff.mp H
                            obtain ⟨⟨t237, t238⟩, A890, H⟩ := H
                            replace H : (if t236 = true then (if t235 = true then (if t238 = true then (if t237 = true then (if (rd t207 x234_4) > a1 then (some false) else (if x234_4 > 0 then (if 0 ≤ (wrap64 (x234_4 - 1)) then (if (wrap64 (x234_4 - 1)) < (t207.length : Int) then (if (rd t207 (wrap64 (x234_4 - 1))) ≥ (rd t207 x234_4) then (some false) else (if (rd t207 x234_4) > 3 then (if (Int.tmod (rd t207 x234_4) 6) = 5 then (laws_FnSumsOfPrimesOfAll.l0 k4 a1 a2 a3 t207 t215 t223 t224 t207 (t207.length : Int) (wrap64 (x234_4 + 1))) else (some false)) else (laws_FnSumsOfPrimesOfAll.l0 k4 a1 a2 a3 t207 t215 t223 t224 t207 (t207.length : Int) (wrap64 (x234_4 + 1))))) else (none)) else (none)) else (if (rd t207 x234_4) > 3 then (if (Int.tmod (rd t207 x234_4) 6) = 5 then (laws_FnSumsOfPrimesOfAll.l0 k4 a1 a2 a3 t207 t215 t223 t224 t207 (t207.length : Int) (wrap64 (x234_4 + 1))) else (some false)) else (laws_FnSumsOfPrimesOfAll.l0 k4 a1 a2 a3 t207 t215 t223 t224 t207 (t207.length : Int) (wrap64 (x234_4 + 1)))))) else (some false)) else (some false)) else (some false)) else (some false)) = some r := H
                            have A89 := Aside0.mk A890
                            clear A890
                            by_cases c90 : t236 = true
                            · subst c90
                              have H1 : (if t235 = true then (if t238 = true then (if t237 = true then (if (rd t207 x234_4) > a1 then (some false) else (if x234_4 > 0 then (if 0 ≤ (wrap64 (x234_4 - 1)) then (if (wrap64 (x234_4 - 1)) < (t207.length : Int) then (if (rd t207 (wrap64 (x234_4 - 1))) ≥ (rd t207 x234_4) then (some false) else (if (rd t207 x234_4) > 3 then (if (Int.tmod (rd t207 x234_4) 6) = 5 then (laws_FnSumsOfPrimesOfAll.l0 k4 a1 a2 a3 t207 t215 t223 t224 t207 (t207.length : Int) (wrap64 (x234_4 + 1))) else (some false)) else (laws_FnSumsOfPrimesOfAll.l0 k4 a1 a2 a3 t207 t215 t223 t224 t207 (t207.length : Int) (wrap64 (x234_4 + 1))))) else (none)) else (none)) else (if (rd t207 x234_4) > 3 then (if (Int.tmod (rd t207 x234_4) 6) = 5 then (laws_FnSumsOfPrimesOfAll.l0 k4 a1 a2 a3 t207 t215 t223 t224 t207 (t207.length : Int) (wrap64 (x234_4 + 1))) else (some false)) else (laws_FnSumsOfPrimesOfAll.l0 k4 a1 a2 a3 t207 t215 t223 t224 t207 (t207.length : Int) (wrap64 (x234_4 + 1)))))) else (some false)) else (some false)) else (some false)) = some r := by rw [if_pos rfl] at H; exact H
                              clear H
                              have H := H1
                              clear H1
                              by_cases c91 : t235 = true
                              · subst c91
                                have H1 : (if t238 = true then (if t237 = true then (if (rd t207 x234_4) > a1 then (some false) else (if x234_4 > 0 then (if 0 ≤ (wrap64 (x234_4 - 1)) then (if (wrap64 (x234_4 - 1)) < (t207.length : Int) then (if (rd t207 (wrap64 (x234_4 - 1))) ≥ (rd t207 x234_4) then (some false) else (if (rd t207 x234_4) > 3 then (if (Int.tmod (rd t207 x234_4) 6) = 5 then (laws_FnSumsOfPrimesOfAll.l0 k4 a1 a2 a3 t207 t215 t223 t224 t207 (t207.length : Int) (wrap64 (x234_4 + 1))) else (some false)) else (laws_FnSumsOfPrimesOfAll.l0 k4 a1 a2 a3 t207 t215 t223 t224 t207 (t207.length : Int) (wrap64 (x234_4 + 1))))) else (none)) else (none)) else (if (rd t207 x234_4) > 3 then (if (Int.tmod (rd t207 x234_4) 6) = 5 then (laws_FnSumsOfPrimesOfAll.l0 k4 a1 a2 a3 t207 t215 t223 t224 t207 (t207.length : Int) (wrap64 (x234_4 + 1))) else (some false)) else (laws_FnSumsOfPrimesOfAll.l0 k4 a1 a2 a3 t207 t215 t223 t224 t207 (t207.length : Int) (wrap64 (x234_4 + 1)))))) else (some false)) else (some false)) = some r := by rw [if_pos rfl] at H; exact H
                                clear H
                                have H := H1
                                clear H1
                                by_cases c92 : t238 = true
                                · subst c92
                                  have H1 : (if t237 = true then (if (rd t207 x234_4) > a1 then (some false) else (if x234_4 > 0 then (if 0 ≤ (wrap64 (x234_4 - 1)) then (if (wrap64 (x234_4 - 1)) < (t207.length : Int) then (if (rd t207 (wrap64 (x234_4 - 1))) ≥ (rd t207 x234_4) then (some false) else (if (rd t207 x234_4) > 3 then (if (Int.tmod (rd t207 x234_4) 6) = 5 then (laws_FnSumsOfPrimesOfAll.l0 k4 a1 a2 a3 t207 t215 t223 t224 t207 (t207.length : Int) (wrap64 (x234_4 + 1))) else (some false)) else (laws_FnSumsOfPrimesOfAll.l0 k4 a1 a2 a3 t207 t215 t223 t224 t207 (t207.length : Int) (wrap64 (x234_4 + 1))))) else (none)) else (none)) else (if (rd t207 x234_4) > 3 then (if (Int.tmod (rd t207 x234_4) 6) = 5 then (laws_FnSumsOfPrimesOfAll.l0 k4 a1 a2 a3 t207 t215 t223 t224 t207 (t207.length : Int) (wrap64 (x234_4 + 1))) else (some false)) else (laws_FnSumsOfPrimesOfAll.l0 k4 a1 a2 a3 t207 t215 t223 t224 t207 (t207.length : Int) (wrap64 (x234_4 + 1)))))) else (some false)) = some r := by rw [if_pos rfl] at H; exact H
                                  clear H
                                  have H := H1
                                  clear H1
                                  by_cases c93 : t237 = true
                                  · subst c93
                                    have H1 : (if (rd t207 x234_4) > a1 then (some false) else (if x234_4 > 0 then (if 0 ≤ (wrap64 (x234_4 - 1)) then (if (wrap64 (x234_4 - 1)) < (t207.length : Int) then (if (rd t207 (wrap64 (x234_4 - 1))) ≥ (rd t207 x234_4) then (some false) else (if (rd t207 x234_4) > 3 then (if (Int.tmod (rd t207 x234_4) 6) = 5 then (laws_FnSumsOfPrimesOfAll.l0 k4 a1 a2 a3 t207 t215 t223 t224 t207 (t207.length : Int) (wrap64 (x234_4 + 1))) else (some false)) else (laws_FnSumsOfPrimesOfAll.l0 k4 a1 a2 a3 t207 t215 t223 t224 t207 (t207.length : Int) (wrap64 (x234_4 + 1))))) else (none)) else (none)) else (if (rd t207 x234_4) > 3 then (if (Int.tmod (rd t207 x234_4) 6) = 5 then (laws_FnSumsOfPrimesOfAll.l0 k4 a1 a2 a3 t207 t215 t223 t224 t207 (t207.length : Int) (wrap64 (x234_4 + 1))) else (some false)) else (laws_FnSumsOfPrimesOfAll.l0 k4 a1 a2 a3 t207 t215 t223 t224 t207 (t207.length : Int) (wrap64 (x234_4 + 1)))))) = some r := by rw [if_pos rfl] at H; exact H
                                    clear H
                                    have H := H1
                                    clear H1
                                    by_cases c94 : (rd t207 x234_4) > a1
                                    · as_aux_lemma =>
                                      rw [if_pos c94] at H
                                      have c94b0 : decide (a1 < (rd t207 x234_4)) = true := decide_eq_true c94
                                      clear c94
                                      obtain rfl := Option.some.inj H
                                      have p234 : 0 ≤ (x234_4 : Int) := of_decide_eq_true (by first | (with_reducible assumption) | assumption)
                                      have q234 : x234_4 < (t207.length : Int) := of_decide_eq_true (by first | (with_reducible assumption) | assumption)
                                      obtain ⟨ad234, e234, hx234_0⟩ := Kd.at_int (Kd.R_reads' HO_232.out).2.2 x234_4 p234 q234
                                      cases e234
                                      replace p234 := eq_true p234
                                      replace q234 := eq_true q234
                                      go_wp2_with (first | ((with_reducible refine gate_callee (f := 12) rfl ?_); refine goesL_ (some 241) rfl rfl Try.func12 (by kernel_rfl) rfl #[.int .i64 (rd t207 x234_4)] rfl (by (try simp only [List.map_toArray, List.map_cons, List.map_nil]); first | done | rfl | (simp only [List.length_drop, List.length_take]; rfl)) ?_; (with_reducible refine (impl_IsPrime.calls k4 (rd t207 x234_4) true true _ A88.out).mono ?_); rintro e w' ⟨rfl, ⟨nd, rfl⟩⟩; refine ⟨_, rfl, ?_⟩) | ((with_reducible refine gate_callee (f := 12) rfl ?_); refine goesL_ (some 247) rfl rfl Try.func12 (by kernel_rfl) rfl #[.int .i64 (wrap64 ((rd t207 x234_4) + 2))] rfl (by (try simp only [List.map_toArray, List.map_cons, List.map_nil]); first | done | rfl | (simp only [List.length_drop, List.length_take]; rfl)) ?_; (with_reducible refine (impl_IsPrime.calls k4 (wrap64 ((rd t207 x234_4) + 2)) true true _ A89.out).mono ?_); rintro e w' ⟨rfl, ⟨nd, rfl⟩⟩; refine ⟨_, rfl, ?_⟩))
                                      go_ret
                                      exact ⟨by first | rfl | (simp [errW_none, errW_some] <;> rfl) | (simp [*, errW_none, errW_some] <;> rfl), by repeat (first | (with_reducible first | exact HB.out | apply below_alloc | apply pw_below_drewN | apply below_drew1) | exact HB.out)⟩
                                    · as_aux_lemma =>
                                      rw [if_neg c94] at H
                                      have c94b0 : decide (a1 < (rd t207 x234_4)) = false := decide_eq_false c94
                                      clear c94
                                      by_cases c95 : x234_4 > 0
                                      · as_aux_lemma =>
                                        rw [if_pos c95] at H
                                        have c95b0 : decide (0 < x234_4) = true := decide_eq_true c95
                                        clear c95
                                        obtain ⟨ji96, hji96⟩ : ∃ j_ : Int, (wrap64 (x234_4 - 1)) = j_ := ⟨_, rfl⟩
                                        replace H : (if 0 ≤ (ji96) then (if (ji96) < (t207.length : Int) then (if (rd t207 (ji96)) ≥ (rd t207 x234_4) then (some false) else (if (rd t207 x234_4) > 3 then (if (Int.tmod (rd t207 x234_4) 6) = 5 then (laws_FnSumsOfPrimesOfAll.l0 k4 a1 a2 a3 t207 t215 t223 t224 t207 (t207.length : Int) (wrap64 (x234_4 + 1))) else (some false)) else (laws_FnSumsOfPrimesOfAll.l0 k4 a1 a2 a3 t207 t215 t223 t224 t207 (t207.length : Int) (wrap64 (x234_4 + 1))))) else (none)) else (none)) = some r := by first | (rw [hji96] at H; exact H) | (simp only [hji96] at H ⊢; exact H)
                                        (try rw [hji96] at A88)
                                        (try rw [hji96] at A89)
                                        have hji96w : (IntKind.i64.wrap (x234_4 - 1)) = ji96 := (i64_w _).trans hji96
                                        by_cases c97 : 0 ≤ (ji96)
                                        · as_aux_lemma =>
                                          rw [if_pos c97] at H
                                          have c97b0 : decide (0 ≤ (ji96)) = true := decide_eq_true c97
                                          clear c97
                                          by_cases c98 : (ji96) < (t207.length : Int)
                                          · as_aux_lemma =>
                                            rw [if_pos c98] at H
                                            have c98b0 : decide ((ji96) < (t207.length : Int)) = true := decide_eq_true c98
                                            clear c98
                                            by_cases c99 : (rd t207 (ji96)) ≥ (rd t207 x234_4)
                                            · as_aux_lemma =>
                                              rw [if_pos c99] at H
                                              have c99b0 : decide ((rd t207 x234_4) ≤ (rd t207 (ji96))) = true := decide_eq_true c99
                                              clear c99
                                              obtain rfl := Option.some.inj H
                                              have p234 : 0 ≤ (x234_4 : Int) := of_decide_eq_true (by first | (with_reducible assumption) | assumption)
                                              have q234 : x234_4 < (t207.length : Int) := of_decide_eq_true (by first | (with_reducible assumption) | assumption)
                                              obtain ⟨ad234, e234, hx234_0⟩ := Kd.at_int (Kd.R_reads' HO_232.out).2.2 x234_4 p234 q234
                                              cases e234
                                              replace p234 := eq_true p234
                                              replace q234 := eq_true q234
                                              go_wp2_with (first | ((with_reducible refine gate_callee (f := 12) rfl ?_); refine goesL_ (some 241) rfl rfl Try.func12 (by kernel_rfl) rfl #[.int .i64 (rd t207 x234_4)] rfl (by (try simp only [List.map_toArray, List.map_cons, List.map_nil]); first | done | rfl | (simp only [List.length_drop, List.length_take]; rfl)) ?_; (with_reducible refine (impl_IsPrime.calls k4 (rd t207 x234_4) true true _ A88.out).mono ?_); rintro e w' ⟨rfl, ⟨nd, rfl⟩⟩; refine ⟨_, rfl, ?_⟩) | ((with_reducible refine gate_callee (f := 12) rfl ?_); refine goesL_ (some 247) rfl rfl Try.func12 (by kernel_rfl) rfl #[.int .i64 (wrap64 ((rd t207 x234_4) + 2))] rfl (by (try simp only [List.map_toArray, List.map_cons, List.map_nil]); first | done | rfl | (simp only [List.length_drop, List.length_take]; rfl)) ?_; (with_reducible refine (impl_IsPrime.calls k4 (wrap64 ((rd t207 x234_4) + 2)) true true _ A89.out).mono ?_); rintro e w' ⟨rfl, ⟨nd, rfl⟩⟩; refine ⟨_, rfl, ?_⟩; have p239 : 0 ≤ ((ji96) : Int) := of_decide_eq_true (by first | (with_reducible assumption) | assumption); have q239 : (ji96) < (t207.length : Int) := of_decide_eq_true (by first | (with_reducible assumption) | assumption); obtain ⟨ad239, e239, hx239_0⟩ := Kd.at_int (Kd.R_reads' HO_23.out).2.2 (ji96) p239 q239; obtain rfl : ad234 = ad239 := (by injection e239); replace p239 := eq_true p239; replace q239 := eq_true q239))
                                              go_ret
                                              exact ⟨by first | rfl | (simp [errW_none, errW_some] <;> rfl) | (simp only [← hji96]; first | rfl | (simp [errW_none, errW_some] <;> rfl)) | (simp [*, errW_none, errW_some] <;> rfl), by repeat (first | (with_reducible first | exact HB.out | apply below_alloc | apply pw_below_drewN | apply below_drew1) | exact HB.out)⟩
                                            · as_aux_lemma =>
                                              rw [if_neg c99] at H
                                              have c99b0 : decide ((rd t207 x234_4) ≤ (rd t207 (ji96))) = false := decide_eq_false c99
                                              clear c99
                                              by_cases c100 : (rd t207 x234_4) > 3
                                              · as_aux_lemma =>
                                                rw [if_pos c100] at H
                                                have c100b0 : decide (3 < (rd t207 x234_4)) = true := decide_eq_true c100
                                                clear c100
                                                by_cases c101 : (Int.tmod (rd t207 x234_4) 6) = 5
                                                · as_aux_lemma =>
                                                  rw [if_pos c101] at H
                                                  have c101b0 : ((Int.tmod (rd t207 x234_4) 6) == 5) = true := beq_iff_eq.mpr c101
                                                  have c101b1 : ((Int.tmod (rd t207 x234_4) 6) != 5) = false := bne_eq_false_iff_eq.mpr c101
                                                  clear c101
                                                  have H' := Aside0.mk H
                                                  clear H
                                                  have p234 : 0 ≤ (x234_4 : Int) := of_decide_eq_true (by first | (with_reducible assumption) | assumption)
                                                  have q234 : x234_4 < (t207.length : Int) := of_decide_eq_true (by first | (with_reducible assumption) | assumption)
                                                  obtain ⟨ad234, e234, hx234_0⟩ := Kd.at_int (Kd.R_reads' HO_232.out).2.2 x234_4 p234 q234
                                                  cases e234
                                                  replace p234 := eq_true p234
                                                  replace q234 := eq_true q234
                                                  go_wp2_with (first | ((with_reducible refine gate_callee (f := 12) rfl ?_); refine goesL_ (some 241) rfl rfl Try.func12 (by kernel_rfl) rfl #[.int .i64 (rd t207 x234_4)] rfl (by (try simp only [List.map_toArray, List.map_cons, List.map_nil]); first | done | rfl | (simp only [List.length_drop, List.length_take]; rfl)) ?_; (with_reducible refine (impl_IsPrime.calls k4 (rd t207 x234_4) true true _ A88.out).mono ?_); rintro e w' ⟨rfl, ⟨nd, rfl⟩⟩; refine ⟨_, rfl, ?_⟩) | ((with_reducible refine gate_callee (f := 12) rfl ?_); refine goesL_ (some 247) rfl rfl Try.func12 (by kernel_rfl) rfl #[.int .i64 (wrap64 ((rd t207 x234_4) + 2))] rfl (by (try simp only [List.map_toArray, List.map_cons, List.map_nil]); first | done | rfl | (simp only [List.length_drop, List.length_take]; rfl)) ?_; (with_reducible refine (impl_IsPrime.calls k4 (wrap64 ((rd t207 x234_4) + 2)) true true _ A89.out).mono ?_); rintro e w' ⟨rfl, ⟨nd, rfl⟩⟩; refine ⟨_, rfl, ?_⟩; have p239 : 0 ≤ ((ji96) : Int) := of_decide_eq_true (by first | (with_reducible assumption) | assumption); have q239 : (ji96) < (t207.length : Int) := of_decide_eq_true (by first | (with_reducible assumption) | assumption); obtain ⟨ad239, e239, hx239_0⟩ := Kd.at_int (Kd.R_reads' HO_23.out).2.2 (ji96) p239 q239; obtain rfl : ad234 = ad239 := (by injection e239); replace p239 := eq_true p239; replace q239 := eq_true q239))
                                                  first | go_roundg k4 | (try subst hji96; go_roundg k4)
                                                  case measure => have := HJ8.out; have := HJ23.out; have := HJ42.out; have := HK4.out; omega
                                                  case rel => exact ⟨(wrap64 (x234_4 + 1)), (by first | rfl | (simp; done) | (simp [*]; done)), H', ⟨by have := HJ8.out; have := HJ23.out; have := HJ42.out; have := HK4.out; omega⟩, ⟨by (with_reducible repeat (first | apply Kd.R_alloc | apply Kd.R_drewN | apply Kd.R_drew)); exact HO_23.out⟩, ⟨by (with_reducible repeat (first | apply Kd.R_alloc | apply Kd.R_drewN | apply Kd.R_drew)); exact HO_27.out⟩, ⟨by (with_reducible repeat (first | apply Kd.R_alloc | apply Kd.R_drewN | apply Kd.R_drew)); exact HO_31.out⟩, ⟨by (with_reducible repeat (first | apply Kd.R_alloc | apply Kd.R_drewN | apply Kd.R_drew)); exact HO_232.out⟩, ⟨by repeat (first | (with_reducible first | exact HB.out | apply below_alloc | apply pw_below_drewN | apply below_drew1) | exact HB.out)⟩⟩
                                                · as_aux_lemma =>
                                                  rw [if_neg c101] at H
                                                  have c101b0 : ((Int.tmod (rd t207 x234_4) 6) == 5) = false := beq_eq_false_iff_ne.mpr c101
                                                  have c101b1 : ((Int.tmod (rd t207 x234_4) 6) != 5) = true := bne_iff_ne.mpr c101
                                                  obtain rfl := Option.some.inj H
                                                  have p234 : 0 ≤ (x234_4 : Int) := of_decide_eq_true (by first | (with_reducible assumption) | assumption)
                                                  have q234 : x234_4 < (t207.length : Int) := of_decide_eq_true (by first | (with_reducible assumption) | assumption)
                                                  obtain ⟨ad234, e234, hx234_0⟩ := Kd.at_int (Kd.R_reads' HO_232.out).2.2 x234_4 p234 q234
                                                  cases e234
                                                  replace p234 := eq_true p234
                                                  replace q234 := eq_true q234
                                                  go_wp2_with (first | ((with_reducible refine gate_callee (f := 12) rfl ?_); refine goesL_ (some 241) rfl rfl Try.func12 (by kernel_rfl) rfl #[.int .i64 (rd t207 x234_4)] rfl (by (try simp only [List.map_toArray, List.map_cons, List.map_nil]); first | done | rfl | (simp only [List.length_drop, List.length_take]; rfl)) ?_; (with_reducible refine (impl_IsPrime.calls k4 (rd t207 x234_4) true true _ A88.out).mono ?_); rintro e w' ⟨rfl, ⟨nd, rfl⟩⟩; refine ⟨_, rfl, ?_⟩) | ((with_reducible refine gate_callee (f := 12) rfl ?_); refine goesL_ (some 247) rfl rfl Try.func12 (by kernel_rfl) rfl #[.int .i64 (wrap64 ((rd t207 x234_4) + 2))] rfl (by (try simp only [List.map_toArray, List.map_cons, List.map_nil]); first | done | rfl | (simp only [List.length_drop, List.length_take]; rfl)) ?_; (with_reducible refine (impl_IsPrime.calls k4 (wrap64 ((rd t207 x234_4) + 2)) true true _ A89.out).mono ?_); rintro e w' ⟨rfl, ⟨nd, rfl⟩⟩; refine ⟨_, rfl, ?_⟩; have p239 : 0 ≤ ((ji96) : Int) := of_decide_eq_true (by first | (with_reducible assumption) | assumption); have q239 : (ji96) < (t207.length : Int) := of_decide_eq_true (by first | (with_reducible assumption) | assumption); obtain ⟨ad239, e239, hx239_0⟩ := Kd.at_int (Kd.R_reads' HO_23.out).2.2 (ji96) p239 q239; obtain rfl : ad234 = ad239 := (by injection e239); replace p239 := eq_true p239; replace q239 := eq_true q239))
                                                  go_ret
                                                  exact ⟨by first | rfl | (simp [errW_none, errW_some] <;> rfl) | (simp only [← hji96]; first | rfl | (simp [errW_none, errW_some] <;> rfl)) | (simp [*, errW_none, errW_some] <;> rfl), by repeat (first | (with_reducible first | exact HB.out | apply below_alloc | apply pw_below_drewN | apply below_drew1) | exact HB.out)⟩
                                              · as_aux_lemma =>
                                                rw [if_neg c100] at H
                                                have c100b0 : decide (3 < (rd t207 x234_4)) = false := decide_eq_false c100
                                                clear c100
                                                have H' := Aside0.mk H
                                                clear H
                                                have p234 : 0 ≤ (x234_4 : Int) := of_decide_eq_true (by first | (with_reducible assumption) | assumption)
                                                have q234 : x234_4 < (t207.length : Int) := of_decide_eq_true (by first | (with_reducible assumption) | assumption)
                                                obtain ⟨ad234, e234, hx234_0⟩ := Kd.at_int (Kd.R_reads' HO_232.out).2.2 x234_4 p234 q234
                                                cases e234
                                                replace p234 := eq_true p234
                                                replace q234 := eq_true q234
                                                go_wp2_with (first | ((with_reducible refine gate_callee (f := 12) rfl ?_); refine goesL_ (some 241) rfl rfl Try.func12 (by kernel_rfl) rfl #[.int .i64 (rd t207 x234_4)] rfl (by (try simp only [List.map_toArray, List.map_cons, List.map_nil]); first | done | rfl | (simp only [List.length_drop, List.length_take]; rfl)) ?_; (with_reducible refine (impl_IsPrime.calls k4 (rd t207 x234_4) true true _ A88.out).mono ?_); rintro e w' ⟨rfl, ⟨nd, rfl⟩⟩; refine ⟨_, rfl, ?_⟩) | ((with_reducible refine gate_callee (f := 12) rfl ?_); refine goesL_ (some 247) rfl rfl Try.func12 (by kernel_rfl) rfl #[.int .i64 (wrap64 ((rd t207 x234_4) + 2))] rfl (by (try simp only [List.map_toArray, List.map_cons, List.map_nil]); first | done | rfl | (simp only [List.length_drop, List.length_take]; rfl)) ?_; (with_reducible refine (impl_IsPrime.calls k4 (wrap64 ((rd t207 x234_4) + 2)) true true _ A89.out).mono ?_); rintro e w' ⟨rfl, ⟨nd, rfl⟩⟩; refine ⟨_, rfl, ?_⟩; have p239 : 0 ≤ ((ji96) : Int) := of_decide_eq_true (by first | (with_reducible assumption) | assumption); have q239 : (ji96) < (t207.length : Int) := of_decide_eq_true (by first | (with_reducible assumption) | assumption); obtain ⟨ad239, e239, hx239_0⟩ := Kd.at_int (Kd.R_reads' HO_23.out).2.2 (ji96) p239 q239; obtain rfl : ad234 = ad239 := (by injection e239); replace p239 := eq_true p239; replace q239 := eq_true q239))
                                                first | go_roundg k4 | (try subst hji96; go_roundg k4)
                                                case measure => have := HJ8.out; have := HJ23.out; have := HJ42.out; have := HK4.out; omega
                                                case rel => exact ⟨(wrap64 (x234_4 + 1)), (by first | rfl | (simp; done) | (simp [*]; done)), H', ⟨by have := HJ8.out; have := HJ23.out; have := HJ42.out; have := HK4.out; omega⟩, ⟨by (with_reducible repeat (first | apply Kd.R_alloc | apply Kd.R_drewN | apply Kd.R_drew)); exact HO_23.out⟩, ⟨by (with_reducible repeat (first | apply Kd.R_alloc | apply Kd.R_drewN | apply Kd.R_drew)); exact HO_27.out⟩, ⟨by (with_reducible repeat (first | apply Kd.R_alloc | apply Kd.R_drewN | apply Kd.R_drew)); exact HO_31.out⟩, ⟨by (with_reducible repeat (first | apply Kd.R_alloc | apply Kd.R_drewN | apply Kd.R_drew)); exact HO_232.out⟩, ⟨by repeat (first | (with_reducible first | exact HB.out | apply below_alloc | apply pw_below_drewN | apply below_drew1) | exact HB.out)⟩⟩
                                          · as_aux_lemma =>
                                            rw [if_neg c98] at H
                                            exact absurd H (by simp)
                                        · as_aux_lemma =>
                                          rw [if_neg c97] at H
                                          exact absurd H (by simp)
                                      · as_aux_lemma =>
                                        rw [if_neg c95] at H
                                        have c95b0 : decide (0 < x234_4) = false := decide_eq_false c95
                                        clear c95
                                        by_cases c102 : (rd t207 x234_4) > 3
                                        · as_aux_lemma =>
                                          rw [if_pos c102] at H
                                          have c102b0 : decide (3 < (rd t207 x234_4)) = true := decide_eq_true c102
                                          clear c102
                                          by_cases c103 : (Int.tmod (rd t207 x234_4) 6) = 5
                                          · as_aux_lemma =>
                                            rw [if_pos c103] at H
                                            have c103b0 : ((Int.tmod (rd t207 x234_4) 6) == 5) = true := beq_iff_eq.mpr c103
                                            have c103b1 : ((Int.tmod (rd t207 x234_4) 6) != 5) = false := bne_eq_false_iff_eq.mpr c103
                                            clear c103
                                            have H' := Aside0.mk H
                                            clear H
                                            have p234 : 0 ≤ (x234_4 : Int) := of_decide_eq_true (by first | (with_reducible assumption) | assumption)
                                            have q234 : x234_4 < (t207.length : Int) := of_decide_eq_true (by first | (with_reducible assumption) | assumption)
                                            obtain ⟨ad234, e234, hx234_0⟩ := Kd.at_int (Kd.R_reads' HO_232.out).2.2 x234_4 p234 q234
                                            cases e234
                                            replace p234 := eq_true p234
                                            replace q234 := eq_true q234
                                            go_wp2_with (first | ((with_reducible refine gate_callee (f := 12) rfl ?_); refine goesL_ (some 241) rfl rfl Try.func12 (by kernel_rfl) rfl #[.int .i64 (rd t207 x234_4)] rfl (by (try simp only [List.map_toArray, List.map_cons, List.map_nil]); first | done | rfl | (simp only [List.length_drop, List.length_take]; rfl)) ?_; (with_reducible refine (impl_IsPrime.calls k4 (rd t207 x234_4) true true _ A88.out).mono ?_); rintro e w' ⟨rfl, ⟨nd, rfl⟩⟩; refine ⟨_, rfl, ?_⟩) | ((with_reducible refine gate_callee (f := 12) rfl ?_); refine goesL_ (some 247) rfl rfl Try.func12 (by kernel_rfl) rfl #[.int .i64 (wrap64 ((rd t207 x234_4) + 2))] rfl (by (try simp only [List.map_toArray, List.map_cons, List.map_nil]); first | done | rfl | (simp only [List.length_drop, List.length_take]; rfl)) ?_; (with_reducible refine (impl_IsPrime.calls k4 (wrap64 ((rd t207 x234_4) + 2)) true true _ A89.out).mono ?_); rintro e w' ⟨rfl, ⟨nd, rfl⟩⟩; refine ⟨_, rfl, ?_⟩))
                                            first | go_roundg k4 | (try subst hji96; go_roundg k4)
                                            case measure => have := HJ8.out; have := HJ23.out; have := HJ42.out; have := HK4.out; omega
                                            case rel => exact ⟨(wrap64 (x234_4 + 1)), (by first | rfl | (simp; done) | (simp [*]; done)), H', ⟨by have := HJ8.out; have := HJ23.out; have := HJ42.out; have := HK4.out; omega⟩, ⟨by (with_reducible repeat (first | apply Kd.R_alloc | apply Kd.R_drewN | apply Kd.R_drew)); exact HO_23.out⟩, ⟨by (with_reducible repeat (first | apply Kd.R_alloc | apply Kd.R_drewN | apply Kd.R_drew)); exact HO_27.out⟩, ⟨by (with_reducible repeat (first | apply Kd.R_alloc | apply Kd.R_drewN | apply Kd.R_drew)); exact HO_31.out⟩, ⟨by (with_reducible repeat (first | apply Kd.R_alloc | apply Kd.R_drewN | apply Kd.R_drew)); exact HO_232.out⟩, ⟨by repeat (first | (with_reducible first | exact HB.out | apply below_alloc | apply pw_below_drewN | apply below_drew1) | exact HB.out)⟩⟩
                                          · as_aux_lemma =>
                                            rw [if_neg c103] at H
                                            have c103b0 : ((Int.tmod (rd t207 x234_4) 6) == 5) = false := beq_eq_false_iff_ne.mpr c103
                                            have c103b1 : ((Int.tmod (rd t207 x234_4) 6) != 5) = true := bne_iff_ne.mpr c103
                                            obtain rfl := Option.some.inj H
                                            have p234 : 0 ≤ (x234_4 : Int) := of_decide_eq_true (by first | (with_reducible assumption) | assumption)
                                            have q234 : x234_4 < (t207.length : Int) := of_decide_eq_true (by first | (with_reducible assumption) | assumption)
                                            obtain ⟨ad234, e234, hx234_0⟩ := Kd.at_int (Kd.R_reads' HO_232.out).2.2 x234_4 p234 q234
                                            cases e234
                                            replace p234 := eq_true p234
                                            replace q234 := eq_true q234
                                            go_wp2_with (first | ((with_reducible refine gate_callee (f := 12) rfl ?_); refine goesL_ (some 241) rfl rfl Try.func12 (by kernel_rfl) rfl #[.int .i64 (rd t207 x234_4)] rfl (by (try simp only [List.map_toArray, List.map_cons, List.map_nil]); first | done | rfl | (simp only [List.length_drop, List.length_take]; rfl)) ?_; (with_reducible refine (impl_IsPrime.calls k4 (rd t207 x234_4) true true _ A88.out).mono ?_); rintro e w' ⟨rfl, ⟨nd, rfl⟩⟩; refine ⟨_, rfl, ?_⟩) | ((with_reducible refine gate_callee (f := 12) rfl ?_); refine goesL_ (some 247) rfl rfl Try.func12 (by kernel_rfl) rfl #[.int .i64 (wrap64 ((rd t207 x234_4) + 2))] rfl (by (try simp only [List.map_toArray, List.map_cons, List.map_nil]); first | done | rfl | (simp only [List.length_drop, List.length_take]; rfl)) ?_; (with_reducible refine (impl_IsPrime.calls k4 (wrap64 ((rd t207 x234_4) + 2)) true true _ A89.out).mono ?_); rintro e w' ⟨rfl, ⟨nd, rfl⟩⟩; refine ⟨_, rfl, ?_⟩))
                                            go_ret
                                            exact ⟨by first | rfl | (simp [errW_none, errW_some] <;> rfl) | (simp [*, errW_none, errW_some] <;> rfl), by repeat (first | (with_reducible first | exact HB.out | apply below_alloc | apply pw_below_drewN | apply below_drew1) | exact HB.out)⟩
                                        · as_aux_lemma =>
                                          rw [if_neg c102] at H
                                          have c102b0 : decide (3 < (rd t207 x234_4)) = false := decide_eq_false c102
                                          clear c102
                                          have H' := Aside0.mk H
                                          clear H
                                          have p234 : 0 ≤ (x234_4 : Int) := of_decide_eq_true (by first | (with_reducible assumption) | assumption)
                                          have q234 : x234_4 < (t207.length : Int) := of_decide_eq_true (by first | (with_reducible assumption) | assumption)
                                          obtain ⟨ad234, e234, hx234_0⟩ := Kd.at_int (Kd.R_reads' HO_232.out).2.2 x234_4 p234 q234
                                          cases e234
                                          replace p234 := eq_true p234
                                          replace q234 := eq_true q234
                                          go_wp2_with (first | ((with_reducible refine gate_callee (f := 12) rfl ?_); refine goesL_ (some 241) rfl rfl Try.func12 (by kernel_rfl) rfl #[.int .i64 (rd t207 x234_4)] rfl (by (try simp only [List.map_toArray, List.map_cons, List.map_nil]); first | done | rfl | (simp only [List.length_drop, List.length_take]; rfl)) ?_; (with_reducible refine (impl_IsPrime.calls k4 (rd t207 x234_4) true true _ A88.out).mono ?_); rintro e w' ⟨rfl, ⟨nd, rfl⟩⟩; refine ⟨_, rfl, ?_⟩) | ((with_reducible refine gate_callee (f := 12) rfl ?_); refine goesL_ (some 247) rfl rfl Try.func12 (by kernel_rfl) rfl #[.int .i64 (wrap64 ((rd t207 x234_4) + 2))] rfl (by (try simp only [List.map_toArray, List.map_cons, List.map_nil]); first | done | rfl | (simp only [List.length_drop, List.length_take]; rfl)) ?_; (with_reducible refine (impl_IsPrime.calls k4 (wrap64 ((rd t207 x234_4) + 2)) true true _ A89.out).mono ?_); rintro e w' ⟨rfl, ⟨nd, rfl⟩⟩; refine ⟨_, rfl, ?_⟩))
                                          first | go_roundg k4 | (try subst hji96; go_roundg k4)
                                          case measure => have := HJ8.out; have := HJ23.out; have := HJ42.out; have := HK4.out; omega
                                          case rel => exact ⟨(wrap64 (x234_4 + 1)), (by first | rfl | (simp; done) | (simp [*]; done)), H', ⟨by have := HJ8.out; have := HJ23.out; have := HJ42.out; have := HK4.out; omega⟩, ⟨by (with_reducible repeat (first | apply Kd.R_alloc | apply Kd.R_drewN | apply Kd.R_drew)); exact HO_23.out⟩, ⟨by (with_reducible repeat (first | apply Kd.R_alloc | apply Kd.R_drewN | apply Kd.R_drew)); exact HO_27.out⟩, ⟨by (with_reducible repeat (first | apply Kd.R_alloc | apply Kd.R_drewN | apply Kd.R_drew)); exact HO_31.out⟩, ⟨by (with_reducible repeat (first | apply Kd.R_alloc | apply Kd.R_drewN | apply Kd.R_drew)); exact HO_232.out⟩, ⟨by repeat (first | (with_reducible first | exact HB.out | apply below_alloc | apply pw_below_drewN | apply below_drew1) | exact HB.out)⟩⟩
                                  · replace c93 := Bool.eq_false_iff.mpr c93
                                    subst c93
                                    have H1 : (some false) = some r := by rw [if_neg (show ¬ (false = true) by decide)] at H; exact H
                                    clear H
                                    have H := H1
                                    clear H1
                                    obtain rfl := Option.some.inj H
                                    have p234 : 0 ≤ (x234_4 : Int) := of_decide_eq_true (by first | (with_reducible assumption) | assumption)
                                    have q234 : x234_4 < (t207.length : Int) := of_decide_eq_true (by first | (with_reducible assumption) | assumption)
                                    obtain ⟨ad234, e234, hx234_0⟩ := Kd.at_int (Kd.R_reads' HO_232.out).2.2 x234_4 p234 q234
                                    cases e234
                                    replace p234 := eq_true p234
                                    replace q234 := eq_true q234
                                    go_wp2_with (first | ((with_reducible refine gate_callee (f := 12) rfl ?_); refine goesL_ (some 241) rfl rfl Try.func12 (by kernel_rfl) rfl #[.int .i64 (rd t207 x234_4)] rfl (by (try simp only [List.map_toArray, List.map_cons, List.map_nil]); first | done | rfl | (simp only [List.length_drop, List.length_take]; rfl)) ?_; (with_reducible refine (impl_IsPrime.calls k4 (rd t207 x234_4) true true _ A88.out).mono ?_); rintro e w' ⟨rfl, ⟨nd, rfl⟩⟩; refine ⟨_, rfl, ?_⟩) | ((with_reducible refine gate_callee (f := 12) rfl ?_); refine goesL_ (some 247) rfl rfl Try.func12 (by kernel_rfl) rfl #[.int .i64 (wrap64 ((rd t207 x234_4) + 2))] rfl (by (try simp only [List.map_toArray, List.map_cons, List.map_nil]); first | done | rfl | (simp only [List.length_drop, List.length_take]; rfl)) ?_; (with_reducible refine (impl_IsPrime.calls k4 (wrap64 ((rd t207 x234_4) + 2)) false true _ A89.out).mono ?_); rintro e w' ⟨rfl, ⟨nd, rfl⟩⟩; refine ⟨_, rfl, ?_⟩))
                                    go_ret
                                    exact ⟨by first | rfl | (simp [errW_none, errW_some] <;> rfl) | (simp [*, errW_none, errW_some] <;> rfl), by repeat (first | (with_reducible first | exact HB.out | apply below_alloc | apply pw_below_drewN | apply below_drew1) | exact HB.out)⟩
                                · replace c92 := Bool.eq_false_iff.mpr c92
                                  subst c92
                                  have H1 : (some false) = some r := by rw [if_neg (show ¬ (false = true) by decide)] at H; exact H
                                  clear H
                                  have H := H1
                                  clear H1
                                  obtain rfl := Option.some.inj H
                                  have p234 : 0 ≤ (x234_4 : Int) := of_decide_eq_true (by first | (with_reducible assumption) | assumption)
                                  have q234 : x234_4 < (t207.length : Int) := of_decide_eq_true (by first | (with_reducible assumption) | assumption)
                                  obtain ⟨ad234, e234, hx234_0⟩ := Kd.at_int (Kd.R_reads' HO_232.out).2.2 x234_4 p234 q234
                                  cases e234
                                  replace p234 := eq_true p234
                                  replace q234 := eq_true q234
                                  go_wp2_with (first | ((with_reducible refine gate_callee (f := 12) rfl ?_); refine goesL_ (some 241) rfl rfl Try.func12 (by kernel_rfl) rfl #[.int .i64 (rd t207 x234_4)] rfl (by (try simp only [List.map_toArray, List.map_cons, List.map_nil]); first | done | rfl | (simp only [List.length_drop, List.length_take]; rfl)) ?_; (with_reducible refine (impl_IsPrime.calls k4 (rd t207 x234_4) true true _ A88.out).mono ?_); rintro e w' ⟨rfl, ⟨nd, rfl⟩⟩; refine ⟨_, rfl, ?_⟩) | ((with_reducible refine gate_callee (f := 12) rfl ?_); refine goesL_ (some 247) rfl rfl Try.func12 (by kernel_rfl) rfl #[.int .i64 (wrap64 ((rd t207 x234_4) + 2))] rfl (by (try simp only [List.map_toArray, List.map_cons, List.map_nil]); first | done | rfl | (simp only [List.length_drop, List.length_take]; rfl)) ?_; (with_reducible refine (impl_IsPrime.calls k4 (wrap64 ((rd t207 x234_4) + 2)) t237 false _ A89.out).mono ?_); rintro e w' ⟨rfl, ⟨nd, rfl⟩⟩; refine ⟨_, rfl, ?_⟩))
                                  go_ret
                                  exact ⟨by first | rfl | (simp [errW_none, errW_some] <;> rfl) | (simp [*, errW_none, errW_some] <;> rfl), by repeat (first | (with_reducible first | exact HB.out | apply below_alloc | apply pw_below_drewN | apply below_drew1) | exact HB.out)⟩
                              · replace c91 := Bool.eq_false_iff.mpr c91
                                subst c91
                                have H1 : (some false) = some r := by rw [if_neg (show ¬ (false = true) by decide)] at H; exact H
                                clear H
                                have H := H1
                                clear H1
                                obtain rfl := Option.some.inj H
                                have p234 : 0 ≤ (x234_4 : Int) := of_decide_eq_true (by first | (with_reducible assumption) | assumption)
                                have q234 : x234_4 < (t207.length : Int) := of_decide_eq_true (by first | (with_reducible assumption) | assumption)
                                obtain ⟨ad234, e234, hx234_0⟩ := Kd.at_int (Kd.R_reads' HO_232.out).2.2 x234_4 p234 q234
                                cases e234
                                replace p234 := eq_true p234
                                replace q234 := eq_true q234
                                go_wp2_with (first | ((with_reducible refine gate_callee (f := 12) rfl ?_); refine goesL_ (some 241) rfl rfl Try.func12 (by kernel_rfl) rfl #[.int .i64 (rd t207 x234_4)] rfl (by (try simp only [List.map_toArray, List.map_cons, List.map_nil]); first | done | rfl | (simp only [List.length_drop, List.length_take]; rfl)) ?_; (with_reducible refine (impl_IsPrime.calls k4 (rd t207 x234_4) false true _ A88.out).mono ?_); rintro e w' ⟨rfl, ⟨nd, rfl⟩⟩; refine ⟨_, rfl, ?_⟩) | ((with_reducible refine gate_callee (f := 12) rfl ?_); refine goesL_ (some 247) rfl rfl Try.func12 (by kernel_rfl) rfl #[.int .i64 (wrap64 ((rd t207 x234_4) + 2))] rfl (by (try simp only [List.map_toArray, List.map_cons, List.map_nil]); first | done | rfl | (simp only [List.length_drop, List.length_take]; rfl)) ?_; (with_reducible refine (impl_IsPrime.calls k4 (wrap64 ((rd t207 x234_4) + 2)) t237 t238 _ A89.out).mono ?_); rintro e w' ⟨rfl, ⟨nd, rfl⟩⟩; refine ⟨_, rfl, ?_⟩))
                                go_ret
                                exact ⟨by first | rfl | (simp [errW_none, errW_some] <;> rfl) | (simp [*, errW_none, errW_some] <;> rfl), by repeat (first | (with_reducible first | exact HB.out | apply below_alloc | apply pw_below_drewN | apply below_drew1) | exact HB.out)⟩
                            · replace c90 := Bool.eq_false_iff.mpr c90
                              subst c90
                              have H1 : (some false) = some r := by rw [if_neg (show ¬ (false = true) by decide)] at H; exact H
                              clear H
                              have H := H1
                              clear H1
                              obtain rfl := Option.some.inj H
                              have p234 : 0 ≤ (x234_4 : Int) := of_decide_eq_true (by first | (with_reducible assumption) | assumption)
                              have q234 : x234_4 < (t207.length : Int) := of_decide_eq_true (by first | (with_reducible assumption) | assumption)
                              obtain ⟨ad234, e234, hx234_0⟩ := Kd.at_int (Kd.R_reads' HO_232.out).2.2 x234_4 p234 q234
                              cases e234
                              replace p234 := eq_true p234
                              replace q234 := eq_true q234
                              go_wp2_with (first | ((with_reducible refine gate_callee (f := 12) rfl ?_); refine goesL_ (some 241) rfl rfl Try.func12 (by kernel_rfl) rfl #[.int .i64 (rd t207 x234_4)] rfl (by (try simp only [List.map_toArray, List.map_cons, List.map_nil]); first | done | rfl | (simp only [List.length_drop, List.length_take]; rfl)) ?_; (with_reducible refine (impl_IsPrime.calls k4 (rd t207 x234_4) t235 false _ A88.out).mono ?_); rintro e w' ⟨rfl, ⟨nd, rfl⟩⟩; refine ⟨_, rfl, ?_⟩) | ((with_reducible refine gate_callee (f := 12) rfl ?_); refine goesL_ (some 247) rfl rfl Try.func12 (by kernel_rfl) rfl #[.int .i64 (wrap64 ((rd t207 x234_4) + 2))] rfl (by (try simp only [List.map_toArray, List.map_cons, List.map_nil]); first | done | rfl | (simp only [List.length_drop, List.length_take]; rfl)) ?_; (with_reducible refine (impl_IsPrime.calls k4 (wrap64 ((rd t207 x234_4) + 2)) t237 t238 _ A89.out).mono ?_); rintro e w' ⟨rfl, ⟨nd, rfl⟩⟩; refine ⟨_, rfl, ?_⟩))
                              go_ret
                              exact ⟨by first | rfl | (simp [errW_none, errW_some] <;> rfl) | (simp [*, errW_none, errW_some] <;> rfl), by repeat (first | (with_reducible first | exact HB.out | apply below_alloc | apply pw_below_drewN | apply below_drew1) | exact HB.out)⟩
                          · as_aux_lemma =>
                            rw [if_neg c87] at H
                            exact absurd H (by simp)
                        · as_aux_lemma =>
                          rw [if_neg c86] at H
                          exact absurd H (by simp)
                      · as_aux_lemma =>
                        rw [if_neg c85] at H
                        have c85b0 : decide (x234_4 < (t207.length : Int)) = false := decide_eq_false c85
                        clear c85
                        have H' := Aside0.mk H
                        clear H
                        obtain ⟨Ao104, co104, eo104⟩ := Kd.R_slice HO_27.out
                        subst eo104
                        go_wp2
                        go_loopg [294] k4 (fun kq v294 w' => ∃ (x294_5 : Int), v294 = .int .i64 x294_5 ∧ Aside0 (laws_FnSumsOfPrimesOfAll.l1 kq a1 a2 a3 t223 t224 t215 (t215.length : Int) x294_5 = some r) ∧ Aside0 (kq ≤ k4) ∧ Aside0 (Kd.R (Kd.int .i64) 3 w' w.heap.size (fun k_ => some k_ ≠ ((.slice Ao104 t215.length co104) : Value).ownBlock) v225 t223) ∧ Aside0 (Kd.R (Kd.int .i64) 3 w' w.heap.size (fun k_ => some k_ ≠ (v225 : Value).ownBlock) (.slice Ao104 t215.length co104) t215) ∧ Aside0 (Below w.heap.size w w'))
                        case atStart => exact ⟨(0), (by first | rfl | (simp; done) | (simp [*]; done)), H', ⟨Nat.le_refl _⟩, ⟨by (with_reducible repeat (first | apply Kd.R_alloc | apply Kd.R_drewN | apply Kd.R_drew)); exact Kd.R_mono HO_31.out (fun _ hk => hk.2.1)⟩, ⟨by (with_reducible repeat (first | apply Kd.R_alloc | apply Kd.R_drewN | apply Kd.R_drew)); exact Kd.R_mono HO_27.out (fun _ hk => hk.2.1)⟩, ⟨by repeat (first | (with_reducible first | exact HB.out | apply below_alloc | apply pw_below_drewN | apply below_drew1) | exact HB.out)⟩⟩
                        case round =>
                          as_aux_lemma =>
                          clear H'
                          try clear c1
                          try clear c2
                          try clear p2
                          try clear q2
                          try clear hx2
                          try clear c3
                          try clear c5
                          try clear c6
                          try clear p6
                          try clear c8
                          try clear c9
                          try clear c10
                          try clear c11
                          try clear c12
                          try clear c13
                          try clear c14
                          try clear c14b0
                          try clear c14b1
                          try clear c14b2
                          try clear c15
                          try clear c15b0
                          try clear c15b1
                          try clear c16
                          try clear c16b0
                          try clear c16b1
                          try clear c17
                          try clear c17b0
                          try clear c17b1
                          try clear c17b2
                          try clear c18
                          try clear c18b0
                          try clear c18b1
                          try clear c19
                          try clear c20
                          try clear c20b0
                          try clear c20b1
                          try clear c20b2
                          try clear c21
                          try clear c21b0
                          try clear c21b1
                          try clear c22
                          try clear c22b0
                          try clear c22b1
                          try clear c22b2
                          try clear c23
                          try clear p23
                          try clear q23
                          try clear hx23
                          try clear c25
                          try clear c28
                          try clear c28b0
                          try clear c28b1
                          try clear c29
                          try clear c29b0
                          try clear c30
                          try clear c31
                          try clear c32
                          try clear c33
                          try clear c34
                          try clear c34b0
                          try clear c34b1
                          try clear c35
                          try clear c35b0
                          try clear c35b1
                          try clear c36
                          try clear c36b0
                          try clear c36b1
                          try clear c50
                          try clear c50b0
                          try clear c50b1
                          try clear c50b2
                          try clear c52
                          try clear c53
                          try clear c53b0
                          try clear c53b1
                          try clear c53b2
                          try clear c57
                          try clear c58
                          try clear c58b0
                          try clear c58b1
                          try clear c58b2
                          try clear c64
                          try clear p64
                          try clear c83
                          try clear c85
                          try clear c85b0
                          try clear c86
                          try clear c86b0
                          try clear c87
                          try clear c87b0
                          try clear c90
                          try clear c91
                          try clear c92
                          try clear c93
                          try clear c94
                          try clear c94b0
                          try clear c95
                          try clear c95b0
                          try clear c97
                          try clear c97b0
                          try clear c98
                          try clear c98b0
                          try clear c99
                          try clear c99b0
                          try clear c100
                          try clear c100b0
                          try clear c101
                          try clear c101b0
                          try clear c101b1
                          try clear c102
                          try clear c102b0
                          try clear c103
                          try clear c103b0
                          try clear c103b1
                          try clear hx234_0
                          try clear hx239_0
                          try clear p2
                          try clear p234
                          try clear p239
                          try clear p6
                          try clear p64
                          try clear q234
                          try clear q239
                          obtain ⟨x294_5, rfl, HA, HK5, HO_31, HO_292, HB⟩ := hrel
                          cases gk with
                          | zero => exact absurd HA.out (by simp [laws_FnSumsOfPrimesOfAll.l1])
                          | succ k5 =>
                            have H := HA.out
                            clear HA
                            simp only [laws_FnSumsOfPrimesOfAll.l1] at H
                            by_cases c105 : x294_5 < (t215.length : Int)
                            · as_aux_lemma =>
                              rw [if_pos c105] at H
                              have c105b0 : decide (x294_5 < (t215.length : Int)) = true := decide_eq_true c105
                              clear c105
                              by_cases c106 : 0 ≤ x294_5
                              · as_aux_lemma =>
                                rw [if_pos c106] at H
                                have c106b0 : decide (0 ≤ x294_5) = true := decide_eq_true c106
                                clear c106
                                by_cases c107 : x294_5 < (t215.length : Int)
                                · as_aux_lemma =>
                                  rw [if_pos c107] at H
                                  have c107b0 : decide (x294_5 < (t215.length : Int)) = true := decide_eq_true c107
                                  clear c107
                                  replace H := Option.bind_eq_some_iff.mp H
                                  obtain ⟨⟨t241, t242⟩, A1080, H⟩ := H
                                  replace H : (if t242 = true then (if t241 = true then (if (wrap64 ((rd t215 x294_5) * (rd t215 x294_5))) > a1 then (some false) else (laws_FnSumsOfPrimesOfAll.l1 k5 a1 a2 a3 t223 t224 t215 (t215.length : Int) (wrap64 (x294_5 + 1)))) else (some false)) else (some false)) = some r := H
                                  have A108 := Aside0.mk A1080
                                  clear A1080
                                  by_cases c109 : t242 = true
                                  · subst c109
                                    have H1 : (if t241 = true then (if (wrap64 ((rd t215 x294_5) * (rd t215 x294_5))) > a1 then (some false) else (laws_FnSumsOfPrimesOfAll.l1 k5 a1 a2 a3 t223 t224 t215 (t215.length : Int) (wrap64 (x294_5 + 1)))) else (some false)) = some r := by rw [if_pos rfl] at H; exact H
                                    clear H
                                    have H := H1
                                    clear H1
                                    by_cases c110 : t241 = true
                                    · subst c110
                                      have H1 : (if (wrap64 ((rd t215 x294_5) * (rd t215 x294_5))) > a1 then (some false) else (laws_FnSumsOfPrimesOfAll.l1 k5 a1 a2 a3 t223 t224 t215 (t215.length : Int) (wrap64 (x294_5 + 1)))) = some r := by rw [if_pos rfl] at H; exact H
                                      clear H
                                      have H := H1
                                      clear H1
                                      by_cases c111 : (wrap64 ((rd t215 x294_5) * (rd t215 x294_5))) > a1
                                      · as_aux_lemma =>
                                        rw [if_pos c111] at H
                                        have c111b0 : decide (a1 < (wrap64 ((rd t215 x294_5) * (rd t215 x294_5)))) = true := decide_eq_true c111
                                        clear c111
                                        obtain rfl := Option.some.inj H
                                        have p240 : 0 ≤ (x294_5 : Int) := of_decide_eq_true (by first | (with_reducible assumption) | assumption)
                                        have q240 : x294_5 < (t215.length : Int) := of_decide_eq_true (by first | (with_reducible assumption) | assumption)
                                        obtain ⟨ad240, e240, hx240_0⟩ := Kd.at_int (Kd.R_reads' HO_292.out).2.2 x294_5 p240 q240
                                        cases e240
                                        replace p240 := eq_true p240
                                        replace q240 := eq_true q240
                                        go_wp2_with (first | ((with_reducible refine gate_callee (f := 12) rfl ?_); refine goesL_ (some 300) rfl rfl Try.func12 (by kernel_rfl) rfl #[.int .i64 (rd t215 x294_5)] rfl (by (try simp only [List.map_toArray, List.map_cons, List.map_nil]); first | done | rfl | (simp only [List.length_drop, List.length_take]; rfl)) ?_; (with_reducible refine (impl_IsPrime.calls k5 (rd t215 x294_5) true true _ A108.out).mono ?_); rintro e w' ⟨rfl, ⟨nd, rfl⟩⟩; refine ⟨_, rfl, ?_⟩))
                                        go_ret
                                        exact ⟨by first | rfl | (simp [errW_none, errW_some] <;> rfl) | (simp [*, errW_none, errW_some] <;> rfl), by repeat (first | (with_reducible first | exact HB.out | apply below_alloc | apply pw_below_drewN | apply below_drew1) | exact HB.out)⟩
                                      · as_aux_lemma =>
                                        rw [if_neg c111] at H
                                        have c111b0 : decide (a1 < (wrap64 ((rd t215 x294_5) * (rd t215 x294_5)))) = false := decide_eq_false c111
                                        clear c111
                                        have H' := Aside0.mk H
                                        clear H
                                        have p240 : 0 ≤ (x294_5 : Int) := of_decide_eq_true (by first | (with_reducible assumption) | assumption)
                                        have q240 : x294_5 < (t215.length : Int) := of_decide_eq_true (by first | (with_reducible assumption) | assumption)
                                        obtain ⟨ad240, e240, hx240_0⟩ := Kd.at_int (Kd.R_reads' HO_292.out).2.2 x294_5 p240 q240
                                        cases e240
                                        replace p240 := eq_true p240
                                        replace q240 := eq_true q240
                                        go_wp2_with (first | ((with_reducible refine gate_callee (f := 12) rfl ?_); refine goesL_ (some 300) rfl rfl Try.func12 (by kernel_rfl) rfl #[.int .i64 (rd t215 x294_5)] rfl (by (try simp only [List.map_toArray, List.map_cons, List.map_nil]); first | done | rfl | (simp only [List.length_drop, List.length_take]; rfl)) ?_; (with_reducible refine (impl_IsPrime.calls k5 (rd t215 x294_5) true true _ A108.out).mono ?_); rintro e w' ⟨rfl, ⟨nd, rfl⟩⟩; refine ⟨_, rfl, ?_⟩))
                                        first | go_roundg k5 | (try subst hji96; go_roundg k5)
                                        case measure => have := HJ8.out; have := HJ23.out; have := HJ42.out; have := HK4.out; have := HK5.out; omega
                                        case rel => exact ⟨(wrap64 (x294_5 + 1)), (by first | rfl | (simp; done) | (simp [*]; done)), H', ⟨by have := HJ8.out; have := HJ23.out; have := HJ42.out; have := HK4.out; have := HK5.out; omega⟩, ⟨by (with_reducible repeat (first | apply Kd.R_alloc | apply Kd.R_drewN | apply Kd.R_drew)); exact HO_31.out⟩, ⟨by (with_reducible repeat (first | apply Kd.R_alloc | apply Kd.R_drewN | apply Kd.R_drew)); exact HO_292.out⟩, ⟨by repeat (first | (with_reducible first | exact HB.out | apply below_alloc | apply pw_below_drewN | apply below_drew1) | exact HB.out)⟩⟩
                                    · replace c110 := Bool.eq_false_iff.mpr c110
                                      subst c110
                                      have H1 : (some false) = some r := by rw [if_neg (show ¬ (false = true) by decide)] at H; exact H
                                      clear H
                                      have H := H1
                                      clear H1
                                      obtain rfl := Option.some.inj H
                                      have p240 : 0 ≤ (x294_5 : Int) := of_decide_eq_true (by first | (with_reducible assumption) | assumption)
                                      have q240 : x294_5 < (t215.length : Int) := of_decide_eq_true (by first | (with_reducible assumption) | assumption)
                                      obtain ⟨ad240, e240, hx240_0⟩ := Kd.at_int (Kd.R_reads' HO_292.out).2.2 x294_5 p240 q240
                                      cases e240
                                      replace p240 := eq_true p240
                                      replace q240 := eq_true q240
                                      go_wp2_with (first | ((with_reducible refine gate_callee (f := 12) rfl ?_); refine goesL_ (some 300) rfl rfl Try.func12 (by kernel_rfl) rfl #[.int .i64 (rd t215 x294_5)] rfl (by (try simp only [List.map_toArray, List.map_cons, List.map_nil]); first | done | rfl | (simp only [List.length_drop, List.length_take]; rfl)) ?_; (with_reducible refine (impl_IsPrime.calls k5 (rd t215 x294_5) false true _ A108.out).mono ?_); rintro e w' ⟨rfl, ⟨nd, rfl⟩⟩; refine ⟨_, rfl, ?_⟩))
                                      go_ret
                                      exact ⟨by first | rfl | (simp [errW_none, errW_some] <;> rfl) | (simp [*, errW_none, errW_some] <;> rfl), by repeat (first | (with_reducible first | exact HB.out | apply below_alloc | apply pw_below_drewN | apply below_drew1) | exact HB.out)⟩
                                  · replace c109 := Bool.eq_false_iff.mpr c109
                                    subst c109
                                    have H1 : (some false) = some r := by rw [if_neg (show ¬ (false = true) by decide)] at H; exact H
                                    clear H
                                    have H := H1
                                    clear H1
                                    obtain rfl := Option.some.inj H
                                    have p240 : 0 ≤ (x294_5 : Int) := of_decide_eq_true (by first | (with_reducible assumption) | assumption)
                                    have q240 : x294_5 < (t215.length : Int) := of_decide_eq_true (by first | (with_reducible assumption) | assumption)
                                    obtain ⟨ad240, e240, hx240_0⟩ := Kd.at_int (Kd.R_reads' HO_292.out).2.2 x294_5 p240 q240
                                    cases e240
                                    replace p240 := eq_true p240
                                    replace q240 := eq_true q240
                                    go_wp2_with (first | ((with_reducible refine gate_callee (f := 12) rfl ?_); refine goesL_ (some 300) rfl rfl Try.func12 (by kernel_rfl) rfl #[.int .i64 (rd t215 x294_5)] rfl (by (try simp only [List.map_toArray, List.map_cons, List.map_nil]); first | done | rfl | (simp only [List.length_drop, List.length_take]; rfl)) ?_; (with_reducible refine (impl_IsPrime.calls k5 (rd t215 x294_5) t241 false _ A108.out).mono ?_); rintro e w' ⟨rfl, ⟨nd, rfl⟩⟩; refine ⟨_, rfl, ?_⟩))
                                    go_ret
                                    exact ⟨by first | rfl | (simp [errW_none, errW_some] <;> rfl) | (simp [*, errW_none, errW_some] <;> rfl), by repeat (first | (with_reducible first | exact HB.out | apply below_alloc | apply pw_below_drewN | apply below_drew1) | exact HB.out)⟩
                                · as_aux_lemma =>
                                  rw [if_neg c107] at H
                                  exact absurd H (by simp)
                              · as_aux_lemma =>
                                rw [if_neg c106] at H
                                exact absurd H (by simp)
                            · as_aux_lemma =>
                              rw [if_neg c105] at H
                              have c105b0 : decide (x294_5 < (t215.length : Int)) = false := decide_eq_false c105
                              clear c105
                              have H' := Aside0.mk H
                              clear H
                              go_wp2
                              go_loopg [45] k5 (fun kq v45 w' => ∃ (x45_6 : Int), v45 = .int .i64 x45_6 ∧ Aside0 (laws_FnSumsOfPrimesOfAll.l2 kq a2 a3 t223 t224 x45_6 = some r) ∧ Aside0 (kq ≤ k5) ∧ Aside0 (Kd.R (Kd.int .i64) 3 w' w.heap.size (fun _ => True) v225 t223) ∧ Aside0 (Below w.heap.size w w'))
                              case atStart => exact ⟨(1), (by first | rfl | (simp; done) | (simp [*]; done)), H', ⟨Nat.le_refl _⟩, ⟨by (with_reducible repeat (first | apply Kd.R_alloc | apply Kd.R_drewN | apply Kd.R_drew)); exact Kd.R_mono HO_31.out (fun _ hk => trivial)⟩, ⟨by repeat (first | (with_reducible first | exact HB.out | apply below_alloc | apply pw_below_drewN | apply below_drew1) | exact HB.out)⟩⟩
                              case round =>
                                as_aux_lemma =>
                                clear H'
                                try clear c1
                                try clear c2
                                try clear p2
                                try clear q2
                                try clear hx2
                                try clear c3
                                try clear c5
                                try clear c6
                                try clear p6
                                try clear c8
                                try clear c9
                                try clear c10
                                try clear c11
                                try clear c12
                                try clear c13
                                try clear c14
                                try clear c14b0
                                try clear c14b1
                                try clear c14b2
                                try clear c15
                                try clear c15b0
                                try clear c15b1
                                try clear c16
                                try clear c16b0
                                try clear c16b1
                                try clear c17
                                try clear c17b0
                                try clear c17b1
                                try clear c17b2
                                try clear c18
                                try clear c18b0
                                try clear c18b1
                                try clear c19
                                try clear c20
                                try clear c20b0
                                try clear c20b1
                                try clear c20b2
                                try clear c21
                                try clear c21b0
                                try clear c21b1
                                try clear c22
                                try clear c22b0
                                try clear c22b1
                                try clear c22b2
                                try clear c23
                                try clear p23
                                try clear q23
                                try clear hx23
                                try clear p24
                                try clear q24
                                try clear hx24
                                try clear c25
                                try clear c28
                                try clear c28b0
                                try clear c28b1
                                try clear c29
                                try clear c29b0
                                try clear c30
                                try clear c31
                                try clear c32
                                try clear c33
                                try clear c34
                                try clear c34b0
                                try clear c34b1
                                try clear c35
                                try clear c35b0
                                try clear c35b1
                                try clear c36
                                try clear c36b0
                                try clear c36b1
                                try clear c50
                                try clear c50b0
                                try clear c50b1
                                try clear c50b2
                                try clear c52
                                try clear c53
                                try clear c53b0
                                try clear c53b1
                                try clear c53b2
                                try clear c57
                                try clear c58
                                try clear c58b0
                                try clear c58b1
                                try clear c58b2
                                try clear c64
                                try clear p64
                                try clear c83
                                try clear c85
                                try clear c85b0
                                try clear c86
                                try clear c86b0
                                try clear c87
                                try clear c87b0
                                try clear c90
                                try clear c91
                                try clear c92
                                try clear c93
                                try clear c94
                                try clear c94b0
                                try clear c95
                                try clear c95b0
                                try clear c97
                                try clear c97b0
                                try clear c98
                                try clear c98b0
                                try clear c99
                                try clear c99b0
                                try clear c100
                                try clear c100b0
                                try clear c101
                                try clear c101b0
                                try clear c101b1
                                try clear c102
                                try clear c102b0
                                try clear c103
                                try clear c103b0
                                try clear c103b1
                                try clear c105
                                try clear c105b0
                                try clear c106
                                try clear c106b0
                                try clear c107
                                try clear c107b0
                                try clear c109
                                try clear c110
                                try clear c111
                                try clear c111b0
                                try clear hx234_0
                                try clear hx239_0
                                try clear hx240_0
                                try clear p2
                                try clear p23
                                try clear p234
                                try clear p239
                                try clear p240
                                try clear p6
                                try clear p64
                                try clear q2
                                try clear q23
                                try clear q234
                                try clear q239
                                try clear q240
                                obtain ⟨x45_6, rfl, HA, HK6, HO_31, HB⟩ := hrel
                                cases gk with
                                | zero => exact absurd HA.out (by simp [laws_FnSumsOfPrimesOfAll.l2])
                                | succ k6 =>
                                  have H := HA.out
                                  clear HA
                                  simp only [laws_FnSumsOfPrimesOfAll.l2] at H
                                  have HC112 := Aside0.mk H
                                  clear H
                                  go_upto_region 36 with (fail)
                                  go_cut [322] (fun v322 wc => ∃ (kq : Nat) (x322_111 : Bool), v322 = .bool x322_111 ∧ Aside0 (laws_FnSumsOfPrimesOfAll.j6 kq a2 a3 t223 t224 x45_6 x322_111 = some r) ∧ Aside0 (kq ≤ k6) ∧ Aside0 (Kd.R (Kd.int .i64) 3 wc w.heap.size (fun _ => True) v225 t223) ∧ Aside0 (Below w.heap.size w wc))
                                  case first =>
                                    as_aux_lemma =>
                                    have H := HC112.out
                                    clear HC112
                                    by_cases c113 : t224 = true
                                    · subst c113
                                      have H1 : (laws_FnSumsOfPrimesOfAll.j6 k6 a2 a3 t223 true x45_6 (decide (x45_6 ≤ a2))) = some r := by rw [if_pos rfl] at H; exact H
                                      clear H
                                      have H := H1
                                      clear H1
                                      have H' := Aside0.mk H
                                      clear H
                                      go_wp2
                                      go_meet
                                      case rel => exact ⟨_, (decide (x45_6 ≤ a2)), (by first | rfl | (simp; done) | (simp [*]; done)), H', ⟨by have := HJ8.out; have := HJ23.out; have := HJ42.out; have := HK4.out; have := HK5.out; have := HK6.out; first | omega | exact Nat.le_refl _⟩, ⟨by (with_reducible repeat (first | apply Kd.R_alloc | apply Kd.R_drewN | apply Kd.R_drew)); exact HO_31.out⟩, ⟨by repeat (first | (with_reducible first | exact HB.out | apply below_alloc | apply pw_below_drewN | apply below_drew1) | exact HB.out)⟩⟩
                                    · replace c113 := Bool.eq_false_iff.mpr c113
                                      subst c113
                                      have H1 : (laws_FnSumsOfPrimesOfAll.j6 k6 a2 a3 t223 false x45_6 false) = some r := by rw [if_neg (show ¬ (false = true) by decide)] at H; exact H
                                      clear H
                                      have H := H1
                                      clear H1
                                      have H' := Aside0.mk H
                                      clear H
                                      go_wp2
                                      go_meet
                                      case rel => exact ⟨_, (false), (by first | rfl | (simp; done) | (simp [*]; done)), H', ⟨by have := HJ8.out; have := HJ23.out; have := HJ42.out; have := HK4.out; have := HK5.out; have := HK6.out; first | omega | exact Nat.le_refl _⟩, ⟨by (with_reducible repeat (first | apply Kd.R_alloc | apply Kd.R_drewN | apply Kd.R_drew)); exact HO_31.out⟩, ⟨by repeat (first | (with_reducible first | exact HB.out | apply below_alloc | apply pw_below_drewN | apply below_drew1) | exact HB.out)⟩⟩
                                  case rest =>
                                    as_aux_lemma =>
                                    clear HC112
                                    try clear c1
                                    try clear c2
                                    try clear p2
                                    try clear q2
                                    try clear hx2
                                    try clear c3
                                    try clear c5
                                    try clear c6
                                    try clear p6
                                    try clear c8
                                    try clear c9
                                    try clear c10
                                    try clear c11
                                    try clear c12
                                    try clear c13
                                    try clear c14
                                    try clear c14b0
                                    try clear c14b1
                                    try clear c14b2
                                    try clear c15
                                    try clear c15b0
                                    try clear c15b1
                                    try clear c16
                                    try clear c16b0
                                    try clear c16b1
                                    try clear c17
                                    try clear c17b0
                                    try clear c17b1
                                    try clear c17b2
                                    try clear c18
                                    try clear c18b0
                                    try clear c18b1
                                    try clear c19
                                    try clear c20
                                    try clear c20b0
                                    try clear c20b1
                                    try clear c20b2
                                    try clear c21
                                    try clear c21b0
                                    try clear c21b1
                                    try clear c22
                                    try clear c22b0
                                    try clear c22b1
                                    try clear c22b2
                                    try clear c23
                                    try clear p23
                                    try clear q23
                                    try clear hx23
                                    try clear p24
                                    try clear q24
                                    try clear hx24
                                    try clear c25
                                    try clear c28
                                    try clear c28b0
                                    try clear c28b1
                                    try clear c29
                                    try clear c29b0
                                    try clear c30
                                    try clear c31
                                    try clear c32
                                    try clear c33
                                    try clear c34
                                    try clear c34b0
                                    try clear c34b1
                                    try clear c35
                                    try clear c35b0
                                    try clear c35b1
                                    try clear c36
                                    try clear c36b0
                                    try clear c36b1
                                    try clear c50
                                    try clear c50b0
                                    try clear c50b1
                                    try clear c50b2
                                    try clear c52
                                    try clear c53
                                    try clear c53b0
                                    try clear c53b1
                                    try clear c53b2
                                    try clear c57
                                    try clear c58
                                    try clear c58b0
                                    try clear c58b1
                                    try clear c58b2
                                    try clear c64
                                    try clear p64
                                    try clear c83
                                    try clear c85
                                    try clear c85b0
                                    try clear c86
                                    try clear c86b0
                                    try clear c87
                                    try clear c87b0
                                    try clear c90
                                    try clear c91
                                    try clear c92
                                    try clear c93
                                    try clear c94
                                    try clear c94b0
                                    try clear c95
                                    try clear c95b0
                                    try clear c97
                                    try clear c97b0
                                    try clear c98
                                    try clear c98b0
                                    try clear c99
                                    try clear c99b0
                                    try clear c100
                                    try clear c100b0
                                    try clear c101
                                    try clear c101b0
                                    try clear c101b1
                                    try clear c102
                                    try clear c102b0
                                    try clear c103
                                    try clear c103b0
                                    try clear c103b1
                                    try clear c105
                                    try clear c105b0
                                    try clear c106
                                    try clear c106b0
                                    try clear c107
                                    try clear c107b0
                                    try clear c109
                                    try clear c110
                                    try clear c111
                                    try clear c111b0
                                    try clear c113
                                    try clear hx234_0
                                    try clear hx239_0
                                    try clear hx240_0
                                    try clear p2
                                    try clear p23
                                    try clear p234
                                    try clear p239
                                    try clear p24
                                    try clear p240
                                    try clear p6
                                    try clear p64
                                    try clear q2
                                    try clear q23
                                    try clear q234
                                    try clear q239
                                    try clear q24
                                    try clear q240
                                    obtain ⟨kq, x322_111, rfl, HA, HJ111, HO_31, HB⟩ := hcut
                                    cases kq with
                                    | zero => exact absurd HA.out (by simp [laws_FnSumsOfPrimesOfAll.j6])
                                    | succ kj111 =>
                                      have H := HA.out
                                      clear HA
                                      simp only [laws_FnSumsOfPrimesOfAll.j6] at H
                                      by_cases c114 : x322_111 = true
                                      · subst c114
                                        have H1 : ((impl_IsSmooth.f kj111 x45_6 a3).bind fun bt243 => (if bt243.2 = true then ((laws_gHas.f kj111 t223 x45_6).bind fun t245 => (if (bt243.1 != t245) = true then (some false) else (laws_FnSumsOfPrimesOfAll.l2 kj111 a2 a3 t223 t224 (wrap64 (x45_6 + 1))))) else (some false))) = some r := by rw [if_pos rfl] at H; exact H
                                        clear H
                                        have H := H1
                                        clear H1
                                        replace H := Option.bind_eq_some_iff.mp H
                                        obtain ⟨⟨t243, t244⟩, A1150, H⟩ := H
                                        replace H : (if t244 = true then ((laws_gHas.f kj111 t223 x45_6).bind fun t245 => (if (t243 != t245) = true then (some false) else (laws_FnSumsOfPrimesOfAll.l2 kj111 a2 a3 t223 t224 (wrap64 (x45_6 + 1))))) else (some false)) = some r := H
                                        have A115 := Aside0.mk A1150
                                        clear A1150
                                        by_cases c116 : t244 = true
                                        · subst c116
                                          have H1 : ((laws_gHas.f kj111 t223 x45_6).bind fun t245 => (if (t243 != t245) = true then (some false) else (laws_FnSumsOfPrimesOfAll.l2 kj111 a2 a3 t223 t224 (wrap64 (x45_6 + 1))))) = some r := by rw [if_pos rfl] at H; exact H
                                          clear H
                                          have H := H1
                                          clear H1
                                          replace H := Option.bind_eq_some_iff.mp H
                                          obtain ⟨t245, A1170, H⟩ := H
                                          replace H : (if (t243 != t245) = true then (some false) else (laws_FnSumsOfPrimesOfAll.l2 kj111 a2 a3 t223 t224 (wrap64 (x45_6 + 1)))) = some r := H
                                          have A117 := Aside0.mk A1170
                                          clear A1170
                                          by_cases c118 : (t243 != t245) = true
                                          · as_aux_lemma =>
                                            rw [if_pos c118] at H
                                            have c118b0 : (t243 != t245) = true := c118
                                            (try (have c118b1 : decide (t243 = t245) = false := by simpa using c118))
                                            (try (have c118b2 : (t243 == t245) = false := by simpa using c118))
                                            (try (have c118b3 : ¬ (t243 = t245) := by simpa using c118))
                                            clear c118
                                            obtain rfl := Option.some.inj H
                                            go_wp2_with (first | ((with_reducible refine gate_callee (f := 20) rfl ?_); refine goesL_ (some 328) rfl rfl Try.func20 (by kernel_rfl) rfl #[.int .i64 x45_6, .int .i64 a3] rfl (by (try simp only [List.map_toArray, List.map_cons, List.map_nil]); first | done | rfl | (simp only [List.length_drop, List.length_take]; rfl)) ?_; (with_reducible refine (impl_IsSmooth.calls kj111 x45_6 a3 t243 true _ A115.out).mono ?_); rintro e w119 ⟨rfl, hb⟩; refine ⟨_, rfl, ?_⟩; have n0_ := Aside0.mk (Kd.R_below (by (with_reducible repeat (first | apply Kd.R_alloc | apply Kd.R_drewN | apply Kd.R_drew)); exact HO_31.out) hb); have n1_ := Aside0.mk (below_step (by repeat (first | (with_reducible first | exact HB.out | apply below_alloc | apply pw_below_drewN | apply below_drew1) | exact HB.out)) hb); clear HO_31; clear HB; have HO_31 := n0_; have HB := n1_; clear n0_ n1_; (try clear hb); (try clear hb2); (try clear hk); (try clear hi); obtain ⟨Ao120, co120, eo120⟩ := Kd.R_slice HO_31.out; subst eo120) | (go_at_call 21; (with_reducible refine (laws_gHas.calls kj111 _ _ t223 x45_6 t245 _ ?side1 ?side2 A117.out).mono ?_); (case side1 => repeat (first | exact (Kd.R_reads' HO_31.out).2.2 | (with_reducible refine Kd.C_alloc ?_ _) | (with_reducible refine Kd.C_drewN ?_ _) | (with_reducible refine Kd.C_drew ?_))); (case side2 => exact (Kd.R_reads' HO_31.out).2.1); rintro e w' ⟨rfl, ⟨nd, rfl⟩⟩))
                                            go_ret
                                            exact ⟨by first | rfl | (simp [errW_none, errW_some] <;> rfl) | (simp [*, errW_none, errW_some] <;> rfl), by repeat (first | (with_reducible first | exact HB.out | apply below_alloc | apply pw_below_drewN | apply below_drew1) | exact HB.out)⟩
                                          · as_aux_lemma =>
                                            rw [if_neg c118] at H
                                            have c118b0 : (t243 != t245) = false := by simpa using c118
                                            (try (have c118b1 : decide (t243 = t245) = true := by simpa using c118))
                                            (try (have c118b2 : (t243 == t245) = true := by simpa using c118))
                                            clear c118
                                            have H' := Aside0.mk H
                                            clear H
                                            go_wp2_with (first | ((with_reducible refine gate_callee (f := 20) rfl ?_); refine goesL_ (some 328) rfl rfl Try.func20 (by kernel_rfl) rfl #[.int .i64 x45_6, .int .i64 a3] rfl (by (try simp only [List.map_toArray, List.map_cons, List.map_nil]); first | done | rfl | (simp only [List.length_drop, List.length_take]; rfl)) ?_; (with_reducible refine (impl_IsSmooth.calls kj111 x45_6 a3 t243 true _ A115.out).mono ?_); rintro e w121 ⟨rfl, hb⟩; refine ⟨_, rfl, ?_⟩; have n0_ := Aside0.mk (Kd.R_below (by (with_reducible repeat (first | apply Kd.R_alloc | apply Kd.R_drewN | apply Kd.R_drew)); exact HO_31.out) hb); have n1_ := Aside0.mk (below_step (by repeat (first | (with_reducible first | exact HB.out | apply below_alloc | apply pw_below_drewN | apply below_drew1) | exact HB.out)) hb); clear HO_31; clear HB; have HO_31 := n0_; have HB := n1_; clear n0_ n1_; (try clear hb); (try clear hb2); (try clear hk); (try clear hi); obtain ⟨Ao122, co122, eo122⟩ := Kd.R_slice HO_31.out; subst eo122) | (go_at_call 21; (with_reducible refine (laws_gHas.calls kj111 _ _ t223 x45_6 t245 _ ?side1 ?side2 A117.out).mono ?_); (case side1 => repeat (first | exact (Kd.R_reads' HO_31.out).2.2 | (with_reducible refine Kd.C_alloc ?_ _) | (with_reducible refine Kd.C_drewN ?_ _) | (with_reducible refine Kd.C_drew ?_))); (case side2 => exact (Kd.R_reads' HO_31.out).2.1); rintro e w' ⟨rfl, ⟨nd, rfl⟩⟩))
                                            first | go_roundg kj111 | (try subst hji96; go_roundg kj111)
                                            case measure => have := HJ8.out; have := HJ23.out; have := HJ42.out; have := HK4.out; have := HK5.out; have := HK6.out; have := HJ111.out; omega
                                            case rel => exact ⟨(wrap64 (x45_6 + 1)), (by first | rfl | (simp; done) | (simp [*]; done)), H', ⟨by have := HJ8.out; have := HJ23.out; have := HJ42.out; have := HK4.out; have := HK5.out; have := HK6.out; have := HJ111.out; omega⟩, ⟨by (with_reducible repeat (first | apply Kd.R_alloc | apply Kd.R_drewN | apply Kd.R_drew)); exact HO_31.out⟩, ⟨by repeat (first | (with_reducible first | exact HB.out | apply below_alloc | apply pw_below_drewN | apply below_drew1) | exact HB.out)⟩⟩
                                        · replace c116 := Bool.eq_false_iff.mpr c116
                                          subst c116
                                          have H1 : (some false) = some r := by rw [if_neg (show ¬ (false = true) by decide)] at H; exact H
                                          clear H
                                          have H := H1
                                          clear H1
                                          obtain rfl := Option.some.inj H
                                          go_wp2_with (first | ((with_reducible refine gate_callee (f := 20) rfl ?_); refine goesL_ (some 328) rfl rfl Try.func20 (by kernel_rfl) rfl #[.int .i64 x45_6, .int .i64 a3] rfl (by (try simp only [List.map_toArray, List.map_cons, List.map_nil]); first | done | rfl | (simp only [List.length_drop, List.length_take]; rfl)) ?_; (with_reducible refine (impl_IsSmooth.calls kj111 x45_6 a3 t243 false _ A115.out).mono ?_); rintro e w123 ⟨rfl, hb⟩; refine ⟨_, rfl, ?_⟩; have n0_ := Aside0.mk (Kd.R_below (by (with_reducible repeat (first | apply Kd.R_alloc | apply Kd.R_drewN | apply Kd.R_drew)); exact HO_31.out) hb); have n1_ := Aside0.mk (below_step (by repeat (first | (with_reducible first | exact HB.out | apply below_alloc | apply pw_below_drewN | apply below_drew1) | exact HB.out)) hb); clear HO_31; clear HB; have HO_31 := n0_; have HB := n1_; clear n0_ n1_; (try clear hb); (try clear hb2); (try clear hk); (try clear hi)))
                                          go_ret
                                          exact ⟨by first | rfl | (simp [errW_none, errW_some] <;> rfl) | (simp [*, errW_none, errW_some] <;> rfl), by repeat (first | (with_reducible first | exact HB.out | apply below_alloc | apply pw_below_drewN | apply below_drew1) | exact HB.out)⟩
                                      · replace c114 := Bool.eq_false_iff.mpr c114
                                        subst c114
                                        have H1 : (some true) = some r := by rw [if_neg (show ¬ (false = true) by decide)] at H; exact H
                                        clear H
                                        have H := H1
                                        clear H1
                                        obtain rfl := Option.some.inj H
                                        go_wp2
                                        go_ret
                                        exact ⟨by first | rfl | (simp [errW_none, errW_some] <;> rfl) | (simp [*, errW_none, errW_some] <;> rfl), by repeat (first | (with_reducible first | exact HB.out | apply below_alloc | apply pw_below_drewN | apply below_drew1) | exact HB.out)⟩

/-- THE ONE PURE STATEMENT of laws_FnSumsOfPrimesOfAll: yours. -/
def laws_FnSumsOfPrimesOfAll.Pure : Prop := ∀ (a0 : Int) (a1 : Int) (a2 : Int) (a3 : Int), (Lit.int .i64 a0).wf = true → (Lit.int .i64 a1).wf = true → (Lit.int .i64 a2).wf = true → (Lit.int .i64 a3).wf = true → ∃ k, laws_FnSumsOfPrimesOfAll.f k a0 a1 a2 a3 = some true
theorem laws_FnSumsOfPrimesOfAll.walk (P : laws_FnSumsOfPrimesOfAll.Pure) (a0 : Int) (a1 : Int) (a2 : Int) (a3 : Int) (w : World) (w0 : (Lit.int .i64 a0).wf = true) (w1 : (Lit.int .i64 a1).wf = true) (w2 : (Lit.int .i64 a2).wf = true) (w3 : (Lit.int .i64 a3).wf = true) :
    Calls Try.prog 3 #[.int .i64 a0, .int .i64 a1, .int .i64 a2, .int .i64 a3] w fun e w' => e = .returned (.bool true) ∧ Below w.heap.size w w' := by
  obtain ⟨k, h⟩ := P a0 a1 a2 a3 w0 w1 w2 w3
  refine (laws_FnSumsOfPrimesOfAll.calls k a0 a1 a2 a3 true w h).mono ?_
  rintro e w' ⟨rfl, hd⟩
  exact ⟨rfl, hd⟩

end Go.Proofs.Ytjonkpeoiecchaa.P
